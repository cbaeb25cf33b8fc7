/- Plain mathematics: what the functions answer (part 4). Conditions: stated in each theorem. -/
import Derived.Test.YtelahampjnaimadM3
import Derived.Test.YtelahampjnaimadM2
import Derived.Test.YtelahampjnaimadM1
set_option linter.unusedVariables false
set_option linter.unusedSimpArgs false
namespace Go.Zq
theorem zlX {F:Nat} {l:List Int} (hl:l.length≤1000):W9 F l=some l:=by
 unfold W9
 unfold vW
 rw [if_pos (by simp;omega)]
 simp
def cod (s:Nat×Nat):Nat:=s.1 + 256 * s.2
theorem zcJ {l:List Nat} {N:Nat} (hn:l.Nodup) (h:∀ x∈l,x < N):l.length≤N:=by
 have:=Nh N (l.map fun x:Nat=>(x:Int)) (by
  rw [List.nodup_iff_pairwise_ne] at hn ⊢
  rw [List.pairwise_map]
  exact hn.imp fun h=>by omega) (by
  intro x hx
  obtain ⟨y,hy,rfl⟩:=xd.1 hx
  have:=h y hy
  omega)
 have h2:=Uv (p:=fun j=>decide ((j:Int)∈l.map fun x:Nat=>(x:Int))) (n:=N)
 rw [this,List.length_map] at h2
 exact h2
structure Bfs (g:Gr) (k:Int) (T:List (Nat×Nat)) (P:List (NL Int)) (sn:List Bool):Prop where
 fst:T[0]?=some (0,2 ^ g.1.toNat - 1)
 rch:∀ s∈T,Rch g k s
 pln:P.length=T.length
 prg:∀ i,i < P.length→(P.getD i .nil).list.length≤i
 sln:sn.length=65536
 see:∀ c,c < 65536→(sn.getD c false=true↔∃ s∈T.tail,cod s=c)
 nod:(T.tail.map cod).Nodup
theorem Bfs.len {g:Gr} {k:Int} {T:List (Nat×Nat)} {P:List (NL Int)} {sn:List Bool} (hg:xl g=true) (h6:g.1≤6) (hk:0≤k) (h:Bfs g k T P sn):T.length≤16385:=by
 have:=zcJ (N:=16384) h.nod (by
  intro c hc
  obtain ⟨s,hs,rfl⟩:=xd.1 hc
  have hst:=zkd hg hk (h.rch s (List.mem_of_mem_tail hs))
  have hp:=Zy (n:=2) (by decide) (show g.1.toNat≤6 by omega)
  have h1:=hst.lt1
  have h2:=hst.lt2
  unfold cod
  omega)
 rw [List.length_map,List.length_tail] at this
 omega
section
variable {g:Gr} {l:List Int}
theorem znh (hg:xl g=true) (ho:wl g.1 l=true) {i:Nat} (hi:i < l.length):∃ x:Nat,l.getD i 0=(x:Int)∧x < g.1.toNat:=by
 have h8:=yx hg
 have hr:=Yh ho h8.1 _ (xr (d:=0) hi)
 exact ⟨(l.getD i 0).toNat,by omega,by omega⟩
theorem LC (hg:xl g=true) (ho:wl g.1 l=true) {b:Nat} (hb:b < g.1.toNat):∃ t,t < l.length∧l.getD t 0=(b:Int):=by
 have:=WD ho (x:=(b:Int)) (by omega) (by omega)
 obtain ⟨t,ht,he⟩:=uP.1 this
 exact ⟨t,ht,by rw [zW,yD ht];exact he⟩
end
def frS (g:Gr) (l:List Int) (i:Nat):Int:=((xI (frt g (xz l i)) g.1.toNat:Nat):Int)
theorem J0 {g:Gr} {l:List Int} {n i:Nat} (h:i < n):(WP g l n).getD i 0=frS g l (i + 1):=by
 simp [WP,frS,zW,h]
theorem zig {F:Nat} {w:S1 (List Int)} {l:List Int}:∀ (k:Nat) (zs:List Int) (s t:Int),vm F w l k zs s t=(xB F w l k zs s t).map fun r=>(r.1.list,r.2)
 | 0,_,_,_=>rfl
 | k + 1,zs,s,t=>by
   simp only [vm,xB,Option.map_bind,XC,zig k,Function.comp_def,yu,NL.list]
theorem Lq {F:Nat} {g:Gr} {l:List Int}:xZ F g l=(XJ F g l).map fun r=>(r.1.list,r.2):=by
 simp only [xZ,XJ,uk,uy,Option.map_bind,XC,zig,Function.comp_def,yu,NL.list]
section
variable {g:Gr} {l:List Int}
theorem UF (hg:xl g=true) (ho:wl g.1 l=true) {i:Nat}:(mkm (xz l i) g.1.toNat).testBit=xz l i:=by
 have h8:=yx hg
 have hr:=Yh ho h8.1
 funext j
 rw [xA]
 by_cases hj:j < g.1.toNat
 · simp [hj]
 · rw [zD hj,wv]
   symm
   unfold xz
   rw [decide_eq_false_iff_not]
   intro h
   have:=hr _ (List.mem_of_mem_take h)
   omega
theorem NI (hg:xl g=true) (ho:wl g.1 l=true) {i x:Nat} (hi:i < l.length) (hx:l.getD i 0=(x:Int)) (hxn:x < g.1.toNat):mkm (xz l (i + 1)) g.1.toNat=mkm (xz l i) g.1.toNat ||| 2 ^ x:=by
 apply ZF
 intro j
 rw [ZX,UF hg ho,UF hg ho,YR,XS hi hx]
 by_cases e:x=j
 · subst e;simp
 · have h1:decide (x=j)=false:=by simpa using e
   have h2:(j == x)=false:=by simp;omega
   rw [h1,h2]
theorem zfL:mkm (xz l 0) g.1.toNat=0:=by
 apply ZF;intro j;rw [xA];simp [xz]
theorem zfw (hg:xl g=true) (ho:wl g.1 l=true):mkm (xz l l.length) g.1.toNat=2 ^ g.1.toNat - 1:=by
 refine zeo Jq fun x hx=>?_
 rw [UF hg ho]
 obtain ⟨t,ht,he⟩:=LC hg ho hx
 unfold xz
 rw [decide_eq_true_iff,List.take_length]
 have:l.getD t 0∈l:=xr ht
 rw [he] at this;exact this
theorem ziT (hg:xl g=true) (ho:wl g.1 l=true) {i:Nat}:frC g (mkm (xz l i) g.1.toNat)=frS g l i:=by
 unfold frC frS;rw [UF hg ho]
theorem zmP (hg:xl g=true) (ho:wl g.1 l=true) {t:Int} (h:∀ i,i < l.length→frS g l (i + 1)≤t):Ch g.1.toNat (frC g) t 0 (2 ^ g.1.toNat - 1):=by
 have h8:=yx hg
 have key:∀ i,i≤l.length→Ch g.1.toNat (frC g) t 0 (mkm (xz l i) g.1.toNat):=by
  intro i
  induction i with
  | zero=>intro _;rw [zfL];exact .refl _
  | succ i ih=>
    intro hi
    obtain ⟨x,hx,hxn⟩:=znh hg ho (show i < l.length by omega)
    rw [NI hg ho (by omega) hx hxn]
    refine ziZ (ih (by omega)) hxn ?_ ?_
    · rw [UF hg ho];exact Zb ho h8.1 (by omega) hx
    · rw [← NI hg ho (by omega) hx hxn,ziT hg ho];exact h i (by omega)
 have:=key l.length (yM _)
 rwa [zfw hg ho] at this
end
theorem zbJ {F:Nat} {xs:List Int} (hF:xs.length < F) (hs:Sm xs.length):YB F xs xs=some true:=by
 unfold YB
 rw [Zf,zj]
 rw [wR (L:=fun k i=>ZQ F xs xs k i) (n:=xs.length) (p:=fun _=>true) (bad:=some false) (fin:=some true) ?_ ?_ F hF]
 · have:wX (fun _=>true) xs.length=true:=yK.2 fun _ _=>rfl
   rw [this];rfl
 · intro k i hi
   simp only [ZQ]
   rw [zt (by omega),zn,z8 (d:=0) hi,zc,zc,Zf,zj,zn,yh hi hs]
 · intro k
   simp only [ZQ]
   rw [zD (by omega),zj]
def mxL (xs:List Int):Nat→Int
 | 0=>0
 | i + 1=>if xs.getD i 0 > mxL xs i then xs.getD i 0 else mxL xs i
theorem ZR {xs:List Int}:∀ n,0≤mxL xs n
 | 0=>Int.le_refl _
 | n + 1=>by
   have:=ZR (xs:=xs) n
   simp only [mxL];split <;> omega
theorem Mj {xs:List Int}:∀ n i,i < n→xs.getD i 0≤mxL xs n
 | 0,i,h=>by omega
 | n + 1,i,h=>by
   have h2:=Mj (xs:=xs) n
   simp only [mxL]
   by_cases e:i=n
   · subst e;split <;> omega
   · have:=h2 i (by omega);split <;> omega
theorem zak {xs:List Int} {t:Int} (h0:0≤t):∀ n,(∀ i,i < n→xs.getD i 0≤t)→mxL xs n≤t
 | 0,_=>h0
 | n + 1,h=>by
   have:=zak h0 n fun i hi=>h i (by omega)
   have:=h n (by omega)
   simp only [mxL];split <;> omega
def fsF (g:Gr) (l:List Int):List Int×Bool:=bif xl g && wl g.1 l then (WP g l l.length,true) else ([],false)
section
variable {F:Nat} {g:Gr} {l:List Int}
theorem Ul (hF:l.length < F) (hG:g.2.length < F) (h9:20≤F) (hl:Sm l.length) (hs:Sm g.2.length):Kc F g l=some (fsF g l)∧xZ F g l=some (fsF g l):=by
 unfold fsF
 rw [Lq]
 unfold Kc XJ vI
 rw [WG hG hs,Yy hG (by omega) hs,zc,zc]
 cases h:xl g with
 | false=>exact ⟨rfl,rfl⟩
 | true=>
   have h8:=yx h
   simp only [yQ,zj]
   rw [Ku h8.1 h8.2 hF (by omega) hl,Ms h8.1 h8.2 hF hl]
   cases ho:wl g.1 l with
   | false=>exact ⟨rfl,rfl⟩
   | true=>
     have hlen:=vf ho
     constructor
     · simp only [zc,yQ,Y6,zj]
       exact zjC h ho h9 hG hs
     · simp only [zc,yQ,uy,zj]
       obtain ⟨n,hn⟩:∃ n:Nat,g.1=n:=⟨g.1.toNat,by omega⟩
       rw [MA h hG hs,zc,hn,Qo (by omega),zc]
       rw [zjj h ho h9 _ (by simp;omega)]
       rfl
theorem zmk {w:Int} (hg:xl g=true) (ho:wl g.1 l=true) (hw:∀ t,0≤t→(w≤t↔Ch g.1.toNat (frC g) t 0 (2 ^ g.1.toNat - 1))):w≤mxL (WP g l l.length) l.length:=by
 refine (hw _ (ZR _)).2 (zmP hg ho fun i hi=>?_)
 rw [← J0 hi]
 exact Mj _ i hi
theorem znm {w:Int} (h0:0≤w) (h:∀ i,i < l.length→frS g l (i + 1)≤w):mxL (WP g l l.length) l.length≤w:=by
 refine zak h0 _ fun i hi=>?_
 rw [J0 hi];exact h i hi
end
section
variable {g:Gr}
end
section
variable {g:Gr} {l:List Int}
end
theorem zlB {F:Nat} {g:Gr} (hg:xl g=true) (h9:300≤F) (hG:g.2.length < F) (hs:Sm g.2.length):∃ w,0≤w∧wU F g=some (w,true)∧∀ t,0≤t→(w≤t↔Ch g.1.toNat (frC g) t 0 (2 ^ g.1.toNat - 1)):=by
 have h8:=yx hg
 have hpow:=Zt g.1.toNat
 obtain ⟨best,b1,b2,b3⟩:=LX (F:=F) (nn:=0) hg h9
 have hT0:0≤best.getD 0 0:=by
  have h:=b3 0 hpow
  have h:best.getD 0 0=_:=h
  rw [h]
  by_cases he:Y0 g.1.toNat 0=[]
  · rw [he];exact Int.le_refl _
  · refine zfq he fun y _=>?_
    have:=zcZ (g:=g) (m:=0 ||| 2 ^ y.toNat)
    have:0≤frP g 0 y.toNat:=this
    show 0≤max (frP g 0 y.toNat) _
    omega
 refine ⟨_,hT0,?_,fun t ht=>zi6 (c:=frC g) (by omega) b3 ht 0 hpow⟩
 unfold wU vg
 have:=z8 (xs:=best) (i:=0) (d:=0) (by omega)
 rw [show ((0:Nat):Int)=0 from rfl] at this
 rw [Yy hG (by omega) hs,zc,hg,yQ,zj,MA hg hG hs,zc,b1,zc,this,zc,zc]
section
variable {F:Nat} {g:Gr} {l:List Int}
theorem zfI {xs:List (List Int)} (hF:xs.length < F) (hs:Sm xs.length) (hx:∀ x∈xs,x.length < F∧Sm x.length):YO F xs xs=some true:=by
 unfold YO
 rw [Zf,zj]
 rw [wR (L:=fun k i=>uH F xs xs k i) (n:=xs.length) (p:=fun _=>true) (bad:=some false) (fin:=some true) ?_ ?_ F hF]
 · have:wX (fun _=>true) xs.length=true:=yK.2 fun _ _=>rfl
   rw [this];rfl
 · intro k i hi
   have h:=hx _ (xr (d:=[]) hi)
   simp only [uH]
   rw [zt (by omega),zn,z8 (d:=[]) hi,zc,zc,zbJ h.1 h.2,zc,yQ,zj,zn,yh hi hs]
 · intro k
   simp only [uH]
   rw [zD (by omega),zj]
theorem zcg {xs:List Int} (hF:xs.length < F) (hs:Sm xs.length):YE F xs=some (mxL xs xs.length):=by
 unfold YE
 refine wQ (L:=fun k t (s:Int)=>vO F xs k s t) (n:=xs.length) (fun t s=>s=mxL xs t) ?_ ?_ F 0 hF rfl
 · rintro k t s ht rfl
   simp only [vO]
   rw [zt (by omega),zn,z8 (d:=0) ht,zc]
   refine ⟨mxL xs (t + 1),rfl,?_⟩
   unfold X1
   rw [yh ht hs]
   by_cases hm:xs.getD t 0 > mxL xs t
   · rw [zt hm,zn,zc]
     simp only [mxL,if_pos hm]
   · rw [zD hm,zj]
     simp only [mxL,if_neg hm]
 · rintro k s rfl
   simp only [vO]
   rw [zD (by omega),zj]
end
section
variable {F:Nat} {g:Gr} {l:List Int}
end
def dd (a:List Int):List Int→List Int
 | []=>a
 | x :: xs=>dd (if x∈a then a else a++[x]) xs
def dds (a:List Int):List (List Int)→List Int
 | []=>a
 | b :: bs=>dds (dd a b) bs
theorem NU:∀ (xs ys a:List Int),dd a (xs++ys)=dd (dd a xs) ys
 | [],ys,a=>rfl
 | x :: xs,ys,a=>by simp only [Zp,dd];exact NU xs ys _
theorem JA:∀ (xs ys:List (List Int)) (a:List Int),dds a (xs++ys)=dds (dds a xs) ys
 | [],ys,a=>rfl
 | x :: xs,ys,a=>by simp only [Zp,dds];exact JA xs ys _
theorem zfb {a b:List Int} {i:Nat} (h:i < b.length):dd a (b.take (i + 1))=(if b.getD i 0∈dd a (b.take i) then dd a (b.take i) else dd a (b.take i)++[b.getD i 0]):=by
 have e:b.take (i + 1)=b.take i++[b.getD i 0]:=by
  rw [List.take_add_one]
  simp [h,zW]
 rw [e,NU]
 simp only [dd]
theorem zbG {a:List Int} {b:List (List Int)} {i:Nat} (h:i < b.length):dds a (b.take (i + 1))=dd (dds a (b.take i)) (b.getD i []):=by
 have e:b.take (i + 1)=b.take i++[b.getD i []]:=by
  rw [List.take_add_one]
  simp [h,zW]
 rw [e,JA]
 simp only [dds]
theorem zcO:∀ (xs a:List Int),(dd a xs).length≤a.length + xs.length
 | [],a=>by simp [dd]
 | x :: xs,a=>by
   simp only [dd]
   have:=zcO xs (if x∈a then a else a++[x])
   split at this
   · rename_i h;rw [if_pos h];simp;omega
   · rename_i h;rw [if_neg h];simp at this ⊢;omega
theorem zex {n:Nat}:∀ (bs:List (List Int)) (a:List Int),(∀ b∈bs,b.length≤n)→(dds a bs).length≤a.length + bs.length * n
 | [],a,_=>by simp [dds]
 | b :: bs,a,h=>by
   simp only [dds,Xr,Nat.add_mul]
   have h1:=zex bs (dd a b) fun c hc=>h c (by simp [hc])
   have h2:=zcO b a
   have h3:=h b (by simp)
   omega
structure Bs (b:List (List Int)):Prop where
 len:b.length≤16
 each:∀ x∈b,x.length≤8
theorem Bs.dds {b:List (List Int)} (h:Bs b) {i:Nat}:(Zq.dds [] (b.take i)).length≤128:=by
 have h1:=zex (n:=8) (b.take i) [] fun c hc=>h.each c (List.mem_of_mem_take hc)
 have h2:(b.take i).length≤16:=by rw [Xl];have:=h.len;omega
 have h3:(b.take i).length * 8≤16 * 8:=Nat.mul_le_mul_right _ h2
 simp only [List.length_nil] at h1
 omega
theorem Bs.dd {b:List (List Int)} (h:Bs b) {i j:Nat} (hi:i < b.length):(Zq.dd (Zq.dds [] (b.take i)) ((b.getD i []).take j)).length≤136:=by
 have h1:=zcO ((b.getD i []).take j) (Zq.dds [] (b.take i))
 have h2:=h.dds (i:=i)
 have h3:=h.each _ (xr (d:=[]) hi)
 have h4:((b.getD i []).take j).length≤8:=by rw [Xl];omega
 omega
theorem Bs.get {b:List (List Int)} (h:Bs b) {i:Nat} (hi:i < b.length):(b.getD i []).length≤8:=h.each _ (xr (d:=[]) hi)
theorem zjo {F:Nat} {b:List (List Int)} (hb:Bs b) (hF:200≤F):y8 F b F [] 0=some (dds [] b,true):=by
 have hl:=hb.len
 refine wQ (L:=fun k i s=>y8 F b k s i) (n:=b.length) (fun i s=>s=dds [] (b.take i)) ?_ ?_ F _ (by omega) rfl
 · rintro k i s hi rfl
   refine ⟨_,rfl,?_⟩
   have h8:=hb.get hi
   simp only [y8]
   rw [zt (show (i:Int) < (b.length:Int) by omega),zn]
   refine wQ (L:=fun k2 j s=>y7 F b (i:Int) (y8 F b k) k2 s j) (n:=(b.getD i []).length) (fun j s=>s=dd (dds [] (b.take i)) ((b.getD i []).take j)) ?_ ?_ F _ (by omega) rfl
   · rintro k2 j s hj rfl
     refine ⟨_,rfl,?_⟩
     have hdl:=hb.dd (j:=j) hi
     simp only [y7,vz]
     rw [z8 (d:=[]) hi,zc,zt (show (j:Int) < ((b.getD i []).length:Int) by omega),zn,zc,z8 (d:=0) hj,zc,Kf (by omega) (by unfold Sm;omega),zc,zc,z8 (d:=0) hj,zc,vU (by rw [List.length_singleton];omega),zc,yh hj (by unfold Sm;omega),zfb hj]
     by_cases h:(b.getD i []).getD j 0∈dd (dds [] (b.take i)) ((b.getD i []).take j)
     · rw [zt h,if_pos h];rfl
     · rw [zD h,if_neg h];rfl
   · rintro k2 s rfl
     simp only [y7]
     rw [z8 (d:=[]) hi,zc,zD (show ¬ ((b.getD i []).length:Int) < ((b.getD i []).length:Int) by omega),zj,yh hi (by unfold Sm;omega),zbG hi,List.take_length]
 · rintro k s rfl
   simp only [y8]
   rw [zD (show ¬ (b.length:Int) < (b.length:Int) by omega),zj,List.take_length]
theorem zj2 {F:Nat} {b:List (List Int)} (hb:Bs b) (hF:200≤F):∃ o:NL Int,y1 F b F .nil 0=some (o,true)∧o.list=dds [] b:=by
 have hl:=hb.len
 obtain ⟨s,h1,h2⟩:=Lr (L:=fun k i (s:NL Int)=>y1 F b k s i) (n:=b.length) (fin:=fun s=>some (s,true)) (fun i s=>s.list=dds [] (b.take i)) (by
  rintro k i s hi hI
  have h8:=hb.get hi
  obtain ⟨s2,h3,h4⟩:=Lr (L:=fun k2 j (s:NL Int)=>xg F b (i:Int) (b.getD i []) (y1 F b k) k2 s j) (n:=(b.getD i []).length) (fin:=fun s=>y1 F b k s ((i + 1:Nat):Int))
   (fun j s=>s.list=dd (dds [] (b.take i)) ((b.getD i []).take j)) (by
     rintro k2 j t hj hJ
     have hdl:=hb.dd (j:=j) hi
     rw [← hJ] at hdl
     have hnext:=zfb (a:=dds [] (b.take i)) hj
     rw [← hJ] at hnext
     simp only [xg,vQ]
     rw [zt (show (j:Int) < ((b.getD i []).length:Int) by omega),zn,z8 (d:=0) hj,zc,Lh (by omega) (by unfold Sm;omega),zc,vU (by rw [List.length_singleton];omega),zc,yh hj (by unfold Sm;omega)]
     by_cases h:(b.getD i []).getD j 0∈t.list
     · rw [if_pos h] at hnext
       exact ⟨t,by rw [hnext],by rw [zt h];rfl⟩
     · rw [if_neg h] at hnext
       exact ⟨.of (t.list++[(b.getD i []).getD j 0]),by rw [hnext];rfl,by rw [zD h];rfl⟩)
   (by
     rintro k2 t hJ
     simp only [xg]
     rw [zD (show ¬ ((b.getD i []).length:Int) < ((b.getD i []).length:Int) by omega),zj,yh hi (by unfold Sm;omega)]) F s (by omega) (by rw [hI];rfl)
  refine ⟨s2,by rw [h3,zbG hi,List.take_length],?_⟩
  simp only [y1]
  rw [zt (show (i:Int) < (b.length:Int) by omega),zn,z8 (d:=[]) hi,zc]
  exact h4)
  (by
    rintro k s hI
    simp only [y1]
    rw [zD (show ¬ (b.length:Int) < (b.length:Int) by omega),zj]) F .nil (by omega) rfl
 exact ⟨s,h2,by rw [h1,List.take_length]⟩
theorem zpt {g:Gr} {b:List (List Int)} (hg:xl g=true) (h:pdB g b=true):Bs b:=by
 have h8:=yx hg
 unfold pdB at h
 simp only [zq,z9] at h
 refine ⟨h.1.1.1,fun x hx=>?_⟩
 obtain ⟨i,hi,e⟩:=uP.1 hx
 have h1:=yK.1 h.1.1.2 i hi
 rw [zW,yD hi,yI,e] at h1
 have h2:=MO h1
 rw [h2]
 have:=zaZ (p:=bq x) (n:=g.1.toNat)
 omega
section
variable {g h:Gr} {l:List Int}
end
end Go.Zq
