/- Plain mathematics: what the functions answer (part 4). Conditions: stated in each theorem. -/
import Derived.Test.YtkmhlpopclahcacM3
import Derived.Test.YtkmhlpopclahcacM2
import Derived.Test.YtkmhlpopclahcacM1
set_option linter.unusedVariables false
set_option linter.unusedSimpArgs false
namespace Go.Zq
end Go.Zq
namespace Go.Zq
end Go.Zq
namespace Go.Zq
def cod (s:Nat×Nat):Nat:=s.1 + 256 * s.2
theorem zdu {l:List Nat} {N:Nat} (hn:l.Nodup) (h:∀ x∈l,x < N):l.length≤N:=by
 have:=NX N (l.map fun x:Nat=>(x:Int)) (by
  rw [List.nodup_iff_pairwise_ne] at hn ⊢
  rw [List.pairwise_map]
  exact hn.imp fun h=>by omega) (by
  intro x hx
  obtain ⟨y,hy,rfl⟩:=List.mem_map.1 hx
  have:=h y hy
  omega)
 have h2:=vr (p:=fun j=>decide ((j:Int)∈l.map fun x:Nat=>(x:Int))) (n:=N)
 rw [this,List.length_map] at h2
 exact h2
structure Bfs (g:Gr) (k:Int) (T:List (Nat×Nat)) (P:List (NL Int)) (sn:List Bool):Prop where
 fst:T[0]?=some (0,2 ^ g.1.toNat - 1)
 rch:∀ s∈T,Rch g k s
 pln:P.length=T.length
 prg:∀ i,i < P.length→(P.getD i .nil).list.length≤i
 sln:sn.length=65536
 see:∀ c,c < 65536→(sn.getD c false=true↔∃ s∈T.tail,cod s=c)
 nod:(T.tail.map cod).Nodup
theorem Bfs.len {g:Gr} {k:Int} {T:List (Nat×Nat)} {P:List (NL Int)} {sn:List Bool} (hg:yA g=true) (h6:g.1≤6) (hk:0≤k) (h:Bfs g k T P sn):T.length≤16385:=by
 have:=zdu (N:=16384) h.nod (by
  intro c hc
  obtain ⟨s,hs,rfl⟩:=List.mem_map.1 hc
  have hst:=zkV hg hk (h.rch s (List.mem_of_mem_tail hs))
  have hp:=Nat.pow_le_pow_right (n:=2) (by decide) (show g.1.toNat≤6 by omega)
  have h1:=hst.lt1
  have h2:=hst.lt2
  unfold cod
  omega)
 rw [List.length_map,List.length_tail] at this
 omega
end Go.Zq
namespace Go.Zq
end Go.Zq
namespace Go.Zq
end Go.Zq
namespace Go.Zq
section
variable {g:Gr} {l:List Int}
theorem zaZ (hg:yA g=true) (ho:yV g.1 l=true) {i:Nat} (hi:i < l.length):∃ x:Nat,l.getD i 0=(x:Int)∧x < g.1.toNat:=by
 have h8:=zC hg
 have hr:=UK ho h8.1 _ (wg (d:=0) hi)
 exact ⟨(l.getD i 0).toNat,by omega,by omega⟩
theorem zkJ (hg:yA g=true) (ho:yV g.1 l=true) {b:Nat} (hb:b < g.1.toNat):∃ t,t < l.length∧l.getD t 0=(b:Int):=by
 have:=Yf ho (x:=(b:Int)) (by omega) (by omega)
 obtain ⟨t,ht,he⟩:=List.mem_iff_getElem.1 this
 exact ⟨t,ht,by rw [List.getD_eq_getElem?_getD,List.getElem?_eq_getElem ht];exact he⟩
end
end Go.Zq
namespace Go.Zq
def frS (g:Gr) (l:List Int) (i:Nat):Int:=((yy (frt g (xr l i)) g.1.toNat:Nat):Int)
theorem zeP {F:Nat} {b:List Int} {cl} {w:S1 (List Int)} {o:NL Int} {s:Int} {q:List Int} {c:NL Int→Int→Option (List Int)} {c':NL Int→Int→Option (NL Int)} (hc:∀ o s,c o s=(c' o s).map NL.list) :
    ∀ (k:Nat) (t:Int),yM F b cl w o s q c k t=(z7 F b cl w o s q c' k t).map NL.list
 | 0,_=>rfl
 | k + 1,t=>by
   simp only [yM,z7,Option.map_bind,vx,zeP hc k,hc,Function.comp_def]
theorem zey {F:Nat} {b:List Int} {cl} {w:S1 (List Int)} :
    ∀ (k:Nat) (o:NL Int) (s:Int),yR F b cl w k o s=(zO F b cl w k o s).map NL.list
 | 0,_,_=>rfl
 | k + 1,o,s=>by
   simp only [yR,zO,Option.map_bind,vx,zeP (zey k),Function.comp_def,Option.map_some]
theorem LD {F:Nat} {g:Gr}:Ua F g=(Yv F g).map fun r=>(r.1.list,r.2):=by
 simp only [Ua,Yv,w9,xz,Option.map_bind,vx,zey,Function.comp_def,Option.map_some,NL.list,Option.bind_map]
section
variable {g:Gr} {l:List Int}
theorem X4 (hg:yA g=true) (ho:yV g.1 l=true) {i:Nat}:(mkm (xr l i) g.1.toNat).testBit=xr l i:=by
 have h8:=zC hg
 have hr:=UK ho h8.1
 funext j
 rw [yN]
 by_cases hj:j < g.1.toNat
 · simp [hj]
 · rw [decide_eq_false hj,Bool.false_and]
   symm
   unfold xr
   rw [decide_eq_false_iff_not]
   intro h
   have:=hr _ (List.mem_of_mem_take h)
   omega
theorem Jk (hg:yA g=true) (ho:yV g.1 l=true) {i x:Nat} (hi:i < l.length) (hx:l.getD i 0=(x:Int)) (hxn:x < g.1.toNat):mkm (xr l (i + 1)) g.1.toNat=mkm (xr l i) g.1.toNat ||| 2 ^ x:=by
 apply Nat.eq_of_testBit_eq
 intro j
 rw [Nat.testBit_or,X4 hg ho,X4 hg ho,Nat.testBit_two_pow,Yk hi hx]
 by_cases e:x=j
 · subst e;simp
 · have h1:decide (x=j)=false:=by simpa using e
   have h2:(j == x)=false:=by simp;omega
   rw [h1,h2]
theorem Qp:mkm (xr l 0) g.1.toNat=0:=by
 apply Nat.eq_of_testBit_eq;intro j;rw [yN];simp [xr]
theorem N4 (hg:yA g=true) (ho:yV g.1 l=true):mkm (xr l l.length) g.1.toNat=2 ^ g.1.toNat - 1:=by
 refine Q5 KO fun x hx=>?_
 rw [X4 hg ho]
 obtain ⟨t,ht,he⟩:=zkJ hg ho hx
 unfold xr
 rw [decide_eq_true_iff,List.take_length]
 have:l.getD t 0∈l:=wg ht
 rw [he] at this;exact this
theorem zkI (hg:yA g=true) (ho:yV g.1 l=true) {i:Nat}:frC g (mkm (xr l i) g.1.toNat)=frS g l i:=by
 unfold frC frS;rw [X4 hg ho]
theorem zi1 (hg:yA g=true) (ho:yV g.1 l=true) {t:Int} (h:∀ i,i < l.length→frS g l (i + 1)≤t):Ch g.1.toNat (frC g) t 0 (2 ^ g.1.toNat - 1):=by
 have h8:=zC hg
 have key:∀ i,i≤l.length→Ch g.1.toNat (frC g) t 0 (mkm (xr l i) g.1.toNat):=by
  intro i
  induction i with
  | zero=>intro _;rw [Qp];exact .refl _
  | succ i ih=>
    intro hi
    obtain ⟨x,hx,hxn⟩:=zaZ hg ho (show i < l.length by omega)
    rw [Jk hg ho (by omega) hx hxn]
    refine QX (ih (by omega)) hxn ?_ ?_
    · rw [X4 hg ho];exact Jc ho h8.1 (by omega) hx
    · rw [← Jk hg ho (by omega) hx hxn,zkI hg ho];exact h i (by omega)
 have:=key l.length (Nat.le_refl _)
 rwa [N4 hg ho] at this
theorem zmS {n:Nat} {T:Nat→Int} {t:Int} {d m:Nat} (hn:g.1.toNat=n) (h:Grd n (fun m x=>decide (max (frP g m x) (T (m ||| 2 ^ x))≤t)) d m l):∀ b:List Int,bq b=m.testBit →
    bq (b++l)=(2 ^ n - 1).testBit∧∀ i,i < l.length→((yy (frt g (bq (b++l.take (i + 1)))) n:Nat):Int)≤t:=by
 induction h with
 | done=>intro b hb;exact ⟨by rw [List.append_nil,hb],fun i hi=>by simp at hi⟩
 | step hm hf _ ih=>
   rename_i d m x l _
   intro b hb
   have hx:=wL hf
   have hbx:bq (b++[(x:Int)])=(m ||| 2 ^ x).testBit:=by
    funext j
    rw [Nat.testBit_or,Nat.testBit_two_pow,← hb]
    unfold bq
    rw [Bool.eq_iff_iff]
    have:((j:Int)=(x:Int))↔x=j:=by omega
    simp [this]
   obtain ⟨h1,h2⟩:=ih _ hbx
   rw [List.append_assoc] at h1
   refine ⟨h1,fun i hi=>?_⟩
   cases i with
   | zero=>
     have hp:max (frP g m x) (T (m ||| 2 ^ x))≤t:=by have:=hx.2.1;simp only [Bool.and_eq_true,decide_eq_true_eq] at this;exact this.2
     have:frP g m x≤t:=by omega
     unfold frP frC at this
     rw [hn,← hbx] at this
     simpa using this
   | succ i=>
     have:=h2 i (by simpa using hi)
     rw [List.append_assoc] at this
     exact this
theorem Nx (n:Nat):yy (fun j=>!(0:Nat).testBit j) n=n:=by simp [yy]
theorem K9 {n:Nat} (hl:l.length=n) (h:bq l=(2 ^ n - 1).testBit):yV (n:Int) l=true:=by
 unfold yV
 rw [Bool.and_eq_true]
 refine ⟨by simp [hl],?_⟩
 rw [yE]
 intro j hj
 have:=congrFun h j
 unfold bq at this
 rw [this,Nat.testBit_two_pow_sub_one]
 simpa using hj
theorem zdJ {F:Nat} (hg:yA g=true) (h9:300≤F) (hG:g.2.length < F) (hs:Sm g.2.length) :
    ∃ w l,0≤w∧JC F g=some (w,true)∧w5 F g=some (w,true)∧Kl F g=some (l,true)∧Ua F g=some (l,true)∧yV g.1 l=true∧(∀ i,i < l.length→frS g l (i + 1)≤w) ∧
     ∀ t,0≤t→(w≤t↔Ch g.1.toNat (frC g) t 0 (2 ^ g.1.toNat - 1)):=by
 have h8:=zC hg
 have hpow:=Nat.two_pow_pos g.1.toNat
 have hp256:=Wq (n:=g.1.toNat) (by omega)
 obtain ⟨best,b1,b2,b3⟩:=UE (F:=F) (nn:=0) hg h9
 have hpw:=zic hg h9 hG hs b2 b3
 have hT0:0≤best.getD 0 0:=by
  have h:=b3 0 hpow
  have h:best.getD 0 0=_:=h
  rw [h]
  by_cases he:yT g.1.toNat 0=[]
  · rw [he];exact Int.le_refl _
  · refine YI he fun y _=>?_
    have:=JH (g:=g) (m:=0 ||| 2 ^ y.toNat)
    have:0≤frP g 0 y.toNat:=this
    show 0≤max (frP g 0 y.toNat) _
    omega
 have hc0:=Nx g.1.toNat
 have hf0:frC g 0≤best.getD 0 0:=by
  unfold frC
  rw [← xb,zf2 (fun j=>Nat.zero_testBit j)]
  exact hT0
 obtain ⟨l,hl,hsr⟩:=(zgj (F:=F) (T:=fun m=>best.getD m 0) hg h9 hG hs b3 hT0 g.1.toNat 0 [] F hpow (by funext j;simp [bq]) (by simp) (by simp) hc0 (by omega)).1 hf0 (Int.le_refl _)
 obtain ⟨o,f1,f2⟩:=Ly hg h9 b2 hl .nil F (by omega) (by show 0 + g.1.toNat≤100;omega)
 have hgd:=zmS (g:=g) (T:=fun m=>best.getD m 0) rfl hl [] (by funext j;simp [bq])
 have hio:Yv F g=some (o,true):=by
  unfold Yv
  rw [uH hG (by omega) hs,Option.bind_some,hg,Bool.not_true,cond_false,XD hg hG hs,Option.bind_some,b1,Option.bind_some]
  unfold xz
  have f1':zO F best ⟨(⟨zW g⟩,()),()⟩ ⟨zW g⟩ F .nil 0=some o:=f1
  rw [f1',Option.bind_some]
 have f2':o.list=l:=f2
 have hgn:((g.1.toNat:Nat):Int)=g.1:=by omega
 refine ⟨best.getD 0 0,l,hT0,?_,?_,?_,?_,?_,?_,?_⟩
 · unfold JC
   rw [v7 hG hs,Option.bind_some,hg,Bool.not_true,cond_false,hpw,Option.bind_some]
 · unfold w5
   rw [uH hG (by omega) hs,Option.bind_some,hg,Bool.not_true,cond_false,XD hg hG hs,Option.bind_some]
   have:=(zno hg h9 hG hs).1
   rw [← this,hpw,Option.bind_some]
 · unfold Kl
   rw [v7 hG hs,Option.bind_some,hg,Bool.not_true,cond_false,hpw,Option.bind_some]
   have hsr':Mf F g [] (best.getD 0 0)=some ([]++l,true):=hsr
   rw [hsr',Option.bind_some]
   rfl
 · rw [LD,hio]
   show some (o.list,true)=_
   rw [f2']
 · have:=K9 (zfv hl) hgd.1
   rwa [hgn] at this
 · intro i hi
   exact hgd.2 i hi
 · intro t ht
   exact LN (c:=frC g) (by omega) b3 ht 0 hpow
end
end Go.Zq
namespace Go.Zq
def Ck (a:LB) (b:Int) (m:Nat):Prop:=(∀ y∈a,0≤y.v∧y.v≤255)∧0≤b∧b≤m
theorem Ck.le {a:LB} {b:Int} {m m':Nat} (h:Ck a b m) (hm:m≤m'):Ck a b m':=⟨h.1,h.2.1,by have:=h.2.2;omega⟩
theorem zjs {q:Int}:0≤yp .u64 q 255∧yp .u64 q 255≤255:=by
 unfold yp
 have h:(BitVec.ofInt IntKind.u64.bits q &&& BitVec.ofInt IntKind.u64.bits 255).toNat≤255:=by
  rw [BitVec.toNat_and]
  exact Nat.le_trans Nat.and_le_right (by decide)
 generalize (BitVec.ofInt IntKind.u64.bits q &&& BitVec.ofInt IntKind.u64.bits 255).toNat=n at h
 have e:IntKind.wrap .u64 (n:Int)=n:=by
  simp only [IntKind.wrap,IntKind.bits,IntKind.signed,Bool.false_and]
  have e1:((2:Int) ^ 64)=18446744073709551616:=by decide
  simp only [e1]
  split
  · rename_i hh;cases hh
  · omega
 rw [e];omega
theorem zti (q:Int):0≤w64 (yp .u64 q 255)∧w64 (yp .u64 q 255)≤255:=by
 have:=zjs (q:=q)
 rw [yF (by omega) (by omega)];exact this
section
variable {F:Nat} {c:CC} {m:Nat}
theorem zck {x:Int} (h:Ck c.v.a c.v.b m) (hm:m < 1000000) (h0:0≤x) (hx:x≤255):∃ r c',vt F c x=some (r,c')∧0≤r∧r≤255∧Ck c'.a c'.b (m + 1):=by
 have hb:=h.2
 have hw:w64 (c.v.b + 1)=c.v.b + 1:=yF (by omega) (by omega)
 unfold vt
 rw [hw]
 have hk:Ck c.v.a (c.v.b + 1) (m + 1):=⟨h.1,by omega,by omega⟩
 cases decide ((c.v.b + 1)≤(c.v.a.length:Int)) with
 | true=>exact ⟨x,_,rfl,h0,hx,hk⟩
 | false=>
   exact ⟨_,_,rfl,(zti _).1,(zti _).2,hk⟩
theorem zfm (h:Ck c.v.a c.v.b m) (hm:m < 1000000):∃ r c',wS F c=some (r,c')∧0≤r∧r≤255∧Ck c'.a c'.b (m + 1):=by
 unfold wS
 by_cases hd:c.v.b < (c.v.a.length:Int)
 · rw [decide_eq_true hd,cond_true]
   have hb:=h.2
   obtain ⟨i,hi⟩:∃ i:Nat,c.v.b=i:=⟨c.v.b.toNat,by omega⟩
   rw [hi,Jd (by omega),Option.bind_some]
   have hy:=h.1 _ (List.getElem_mem (show i < c.v.a.length by omega))
   rw [yF (by omega) (by omega)]
   exact zck h hm hy.1 hy.2
 · rw [decide_eq_false hd,cond_false]
   exact zck h hm (by omega) (by omega)
theorem Yq {n:Int} (h:Ck c.v.a c.v.b m) (hm:m < 900000):∃ r c',yj F c n=some (r,c')∧0≤r∧(1≤n→r < n)∧(n≤1→r=0)∧Ck c'.a c'.b (m + 2):=by
 unfold yj
 have rem:∀ (v:Int) (c':CU),0≤v→1 < n→Ck c'.a c'.b (m + 2)→∃ r c'',vu F n c'.a c'.b c'.c.v v=some (r,c'')∧0≤r∧(1≤n→r < n)∧(n≤1→r=0)∧Ck c''.a c''.b (m + 2):=by
  intro v c' hv hn hk
  have e:zjI .i64 v n=some (v.tmod n):=by unfold zjI;rw [if_neg (by omega)]
  unfold vu
  rw [e]
  exact ⟨_,_,rfl,Int.tmod_nonneg _ hv,fun _=>Int.tmod_lt_of_pos _ (by omega),fun h=>by omega,hk⟩
 by_cases hn:n≤1
 · rw [decide_eq_true hn,cond_true]
   exact ⟨0,_,rfl,by omega,fun h=>by omega,fun _=>rfl,h.le (by omega)⟩
 · rw [decide_eq_false hn,cond_false]
   obtain ⟨r,c1,e1,h1,h2,k1⟩:=zfm (F:=F) (c:=Cu.mk c.v) h (by omega)
   rw [e1,Option.bind_some]
   by_cases h200:n > 200
   · rw [decide_eq_true h200,cond_true]
     obtain ⟨r',c2,e2,h3,h4,k2⟩:=zfm (F:=F) (c:=Cu.mk c1) k1 (by omega)
     have e2':wS F (Cu.mk (r,c1).2)=some (r',c2):=e2
     rw [e2',Option.bind_some]
     refine rem _ c2 ?_ (by omega) k2
     show 0≤w64 ((w64 (r * 256)) + r')
     rw [yF (x:=r * 256) (by omega) (by omega),yF (by omega) (by omega)];omega
   · rw [decide_eq_false h200,cond_false]
     exact rem r c1 h1 (by omega) (k1.le (by omega))
theorem J1 {xs:List Int} (h:Ck c.v.a c.v.b m) (hm:m < 900000) (hx:0 < xs.length):∃ r c',xg F c xs=some (r,c')∧r∈xs∧Ck c'.a c'.b (m + 2):=by
 unfold xg
 obtain ⟨r,c1,e1,h1,h2,_,k1⟩:=Yq (F:=F) (c:=Cu.mk c.v) (n:=(xs.length:Int)) h hm
 rw [e1,Option.bind_some]
 have:=h2 (by omega)
 obtain ⟨i,hi⟩:∃ i:Nat,r=i:=⟨r.toNat,by omega⟩
 subst hi
 have e:idx xs ((i:Int),c1).1=some xs[i]:=Jd (by omega)
 rw [e]
 exact ⟨_,_,rfl,List.getElem_mem _,k1⟩
theorem zdw {n:Int} (h:Ck c.v.a c.v.b m) (hm:m < 900000):∃ r c',wO F c n=some (r,c')∧Ck c'.a c'.b (m + 2):=by
 unfold wO
 obtain ⟨r,c1,e1,_,_,_,k1⟩:=Yq (F:=F) (c:=Cu.mk c.v) (n:=n) h hm
 rw [e1]
 exact ⟨_,_,rfl,k1⟩
def GOk (x:Option (GR×CU)):Prop:=∃ g c',x=some (g,c')∧g.2.length≤400∧Ck c'.a c'.b 5000
theorem K2 {α:Type} {xs ys:List α} (h:xs.length + ys.length≤1000):wJ xs ys=some (xs++ys):=by
 unfold wJ
 rw [if_pos (Nat.le_trans h (by decide))]
theorem zgN {o:Oh (Int×Int)} (h:Ck c.v.a c.v.b m) (hm:m≤4000) (ho:o.v.length≤300):GOk (vi F c o):=by
 unfold vi
 obtain ⟨r,c1,e1,h1,h2,_,k1⟩:=Yq (F:=F) (c:=Cu.mk c.v) (n:=50) h (by omega)
 rw [e1,Option.bind_some]
 have fin:GOk (some ((o.a,o.v),c1)):=⟨_,_,rfl,by show o.v.length≤400;omega,k1.le (by omega)⟩
 cases (r,c1).1 == 0 with
 | true=>
   rw [cond_true]
   obtain ⟨r,c2,e2,_,k2⟩:=J1 (F:=F) (c:=Cu.mk c1) (xs:=[(-1),8,9,0,4611686018427387904]) k1 (by omega) (by decide)
   have e2':xg F (Cu.mk (r,c1).2) [(-1),8,9,0,4611686018427387904]=some (r,c2):=e2
   rw [e2',Option.bind_some]
   exact ⟨_,_,rfl,by show o.v.length≤400;omega,k2.le (by omega)⟩
 | false=>
   rw [cond_false]
   cases (r,c1).1 == 1 with
   | true=>
     rw [cond_true]
     obtain ⟨r2,c2,e2,_,_,_,k2⟩:=Yq (F:=F) (c:=Cu.mk c1) (n:=4) k1 (by omega)
     have e2':yj F (Cu.mk (r,c1).2) 4=some (r2,c2):=e2
     rw [e2',Option.bind_some]
     obtain ⟨r3,c3,e3,_,_,_,k3⟩:=Yq (F:=F) (c:=Cu.mk c2) (n:=9) k2 (by omega)
     have e3':yj F (Cu.mk (r2,c2).2) 9=some (r3,c3):=e3
     rw [e3',Option.bind_some,K2 (by simp;omega),Option.bind_some]
     exact ⟨_,_,rfl,by simp;omega,k3.le (by omega)⟩
   | false=>
     rw [cond_false]
     cases (r,c1).1 == 2 with
     | true=>
       rw [cond_true]
       by_cases hl:(o.v.length:Int) > 0
       · rw [decide_eq_true hl,cond_true]
         obtain ⟨r2,c2,e2,h3,h4,_,k2⟩:=Yq (F:=F) (c:=Cu.mk c1) (n:=(o.v.length:Int)) k1 (by omega)
         have e2':yj F (Cu.mk (r,c1).2) (o.v.length:Int)=some (r2,c2):=e2
         rw [e2',Option.bind_some]
         have:=h4 (by omega)
         obtain ⟨i,hi⟩:∃ i:Nat,r2=i:=⟨r2.toNat,by omega⟩
         subst hi
         have e:idx o.v ((i:Int),c2).1=some o.v[i]:=Jd (by omega)
         rw [e,Option.bind_some,K2 (by simp;omega),Option.bind_some]
         exact ⟨_,_,rfl,by simp;omega,k2.le (by omega)⟩
       · rw [decide_eq_false hl,cond_false]
         exact fin
     | false=>exact fin
theorem Mc {a:LB} {b v n:Int} {xs:List (Int×Int)} (h:Ck a b m) (hm:m≤4000) (ho:xs.length≤300):GOk (yO F a b v n (.of xs)):=by
 unfold yO
 obtain ⟨g,c',e,h1,h2⟩:=zgN (F:=F) (c:=cu a b v) (o:=Oh.mk n xs) h hm ho
 show GOk (Option.bind (some xs) _)
 rw [Option.bind_some,e,Option.bind_some]
 exact ⟨g,c',rfl,h1,h2⟩
end
theorem zeU (K:Nat):∀ n:Nat,n≤8→∃ l,ZW (K + 20) (n:Int)=some ((n:Int),.of l)∧l.length≤10
 | 0,_=>⟨_,rfl,by decide⟩
 | 1,_=>⟨_,rfl,by decide⟩
 | 2,_=>⟨_,rfl,by decide⟩
 | 3,_=>⟨_,rfl,by decide⟩
 | 4,_=>⟨_,rfl,by decide⟩
 | 5,_=>⟨_,rfl,by decide⟩
 | 6,_=>⟨_,rfl,by decide⟩
 | 7,_=>⟨_,rfl,by decide⟩
 | 8,_=>⟨_,rfl,by decide⟩
 | n + 9,h=>absurd h (by omega)
theorem zcj (K:Nat):∀ n:Nat,n≤8→∃ l,ub (K + 20) (n:Int)=some ((n:Int),.of l)∧l.length≤300
 | 0,_=>⟨_,rfl,by decide⟩
 | 1,_=>⟨_,rfl,by decide⟩
 | 2,_=>⟨_,rfl,by decide⟩
 | 3,_=>⟨_,rfl,by decide⟩
 | 4,_=>⟨_,rfl,by decide⟩
 | 5,_=>⟨_,rfl,by decide⟩
 | 6,_=>⟨_,rfl,by decide⟩
 | 7,_=>⟨_,rfl,by decide⟩
 | 8,_=>⟨_,rfl,by decide⟩
 | n + 9,h=>absurd h (by omega)
theorem zjV {F n:Nat} (hF:300≤F) (h:n≤8):∃ l,Zc F (n:Int)=some ((n:Int),.of l)∧l.length≤20:=by
 obtain ⟨K,rfl⟩:∃ K,F=K + 20:=⟨F - 20,by omega⟩
 obtain ⟨l,e,hl⟩:=zeU K n h
 unfold Zc
 rw [e,Option.bind_some]
 have:(((n:Int),NL.of l).2).list=l:=rfl
 rw [this,Mm (by omega) (by omega),Option.bind_some]
 exact ⟨_,rfl,by rw [Ms];omega⟩
end Go.Zq
namespace Go.Zq
theorem zmH {F n i:Nat} {q:Int×CU} {t:Bool×CU} {c5:LB→Int→Int→NL (Int×Int)→Int→Option (GR×CU)} (hn:n≤8) (hF:500≤F) (hi:i < n)
    (H:∀ (c':CU) (ys:List (Int×Int)),Ck c'.a c'.b (50 + 40 * (i + 1))→ys.length≤10 * (i + 1)→GOk (c5 c'.a c'.b c'.c.v (.of ys) ((i + 1:Nat):Int))) :
    ∀ (d j k:Nat) (a:LB) (b v:Int) (xs:List (Int×Int)),j + d=n→d < k→Ck a b (50 + 40 * i + 2 * j)→xs.length≤10 * i + j→GOk (yg F (n:Int) q t (i:Int) c5 k a b v (.of xs) (j:Int)):=by
 have hw:w64 ((i:Int) + 1)=((i + 1:Nat):Int):=zN (n:=n) (by omega) (by unfold Sm;omega)
 intro d
 induction d with
 | zero=>
   intro j k a b v xs hj hk hc hx
   obtain ⟨k,rfl⟩:∃ k',k=k' + 1:=⟨k - 1,by omega⟩
   simp only [yg]
   rw [decide_eq_false (by omega),cond_false,Ji,Option.bind_some]
   obtain ⟨r,c1,e1,h1,_,_,k1⟩:=Yq (F:=F) (c:=cu a b v) (n:=max (i:Int) 1) hc (by omega)
   rw [e1,Option.bind_some]
   have hk1:Ck c1.a c1.b (50 + 40 * (i + 1)):=k1.le (by omega)
   have h4f:GOk (xa F (r,c1) (n:Int) (.of xs) q t (i:Int) c5 false):=by
    show GOk (c5 c1.a c1.b c1.c.v (.of xs) (w64 ((i:Int) + 1)))
    rw [hw];exact H c1 xs hk1 (by omega)
   have h4t:GOk (xa F (r,c1) (n:Int) (.of xs) q t (i:Int) c5 true):=by
    unfold xa
    rw [cond_true,show (NL.of xs).list=xs from rfl,Mm (by omega) (by omega),Option.bind_some]
    show GOk (c5 c1.a c1.b c1.c.v (.of _) (w64 ((i:Int) + 1)))
    rw [hw];exact H c1 _ hk1 (by rw [Ms];omega)
   by_cases h0:(i:Int) > 0
   · rw [decide_eq_true h0,cond_true]
     cases !t.1 with
     | false=>exact h4f
     | true=>
       rw [cond_true]
       obtain ⟨y,hy⟩:∃ y:Nat,r=y:=⟨r.toNat,by omega⟩
       subst hy
       have e:uZ F ((n:Int),(NL.of xs).list) (i:Int) ((y:Int),c1).1=_:=Kb (g:=((n:Int),xs)) (F:=F) (a:=i) (b:=y) (by show xs.length < F;omega) (by show Sm xs.length;unfold Sm;omega)
       rw [e,Option.bind_some]
       cases !adj ((n:Int),xs) i y with
       | false=>exact h4f
       | true=>exact h4t
   · rw [decide_eq_false h0];exact h4f
 | succ d ih=>
   intro j k a b v xs hj hk hc hx
   obtain ⟨k,rfl⟩:∃ k',k=k' + 1:=⟨k - 1,by omega⟩
   simp only [yg]
   rw [decide_eq_true (by omega),cond_true]
   obtain ⟨r,c1,e1,h1,_,_,k1⟩:=Yq (F:=F) (c:=cu a b v) (n:=q.1) hc (by omega)
   rw [e1,Option.bind_some]
   have hwj:w64 ((j:Int) + 1)=((j + 1:Nat):Int):=zN (n:=n) (by omega) (by unfold Sm;omega)
   cases (r,c1).1 == 0 with
   | true=>
     rw [cond_true,show (NL.of xs).list=xs from rfl,Mm (by omega) (by omega),Option.bind_some]
     show GOk (yg F (n:Int) q t (i:Int) c5 k c1.a c1.b c1.c.v (.of _) (w64 ((j:Int) + 1)))
     rw [hwj]
     exact ih (j + 1) k _ _ _ _ (by omega) (by omega) (k1.le (by omega)) (by rw [Ms];omega)
   | false=>
     show GOk (yg F (n:Int) q t (i:Int) c5 k c1.a c1.b c1.c.v (.of xs) (w64 ((j:Int) + 1)))
     rw [hwj]
     exact ih (j + 1) k _ _ _ _ (by omega) (by omega) (k1.le (by omega)) (by omega)
theorem zms {F n:Nat} {q:Int×CU} {t:Bool×CU} (hn:n≤8) (hF:500≤F) :
    ∀ (d i k:Nat) (a:LB) (b v:Int) (xs:List (Int×Int)),i + d=n→d < k→Ck a b (50 + 40 * i)→xs.length≤10 * i→GOk (y8 F (n:Int) q t k a b v (.of xs) (i:Int)):=by
 intro d
 induction d with
 | zero=>
   intro i k a b v xs hj hk hc hx
   obtain ⟨k,rfl⟩:∃ k',k=k' + 1:=⟨k - 1,by omega⟩
   simp only [y8]
   rw [decide_eq_false (by omega),cond_false]
   exact Mc hc (by omega) (by omega)
 | succ d ih=>
   intro i k a b v xs hj hk hc hx
   obtain ⟨k,rfl⟩:∃ k',k=k' + 1:=⟨k - 1,by omega⟩
   simp only [y8]
   rw [decide_eq_true (by omega),cond_true,zN (n:=n) (by omega) (by unfold Sm;omega)]
   exact zmH hn hF (by omega) (fun c' ys hc' hy=>ih (i + 1) k _ _ _ _ (by omega) (by omega) hc' hy) (n - (i + 1)) (i + 1) F a b v xs (by omega) (by omega) (hc.le (by omega)) (by omega)
theorem zaT {F:Nat} {c:CC} {z:Int} (h:Ck c.v.a c.v.b 0) (hF:500≤F) (h0:0≤z) (h8:z≤8):GOk (wi F c z):=by
 obtain ⟨K,hK⟩:∃ K,F=K + 20:=⟨F - 20,by omega⟩
 have j5:∀ (c1:CU) (x:Int),Ck c1.a c1.b 10→0≤x→GOk (xX F z c1.a c1.b c1.c.v x):=by
  intro c1 x k1 hx
  unfold xX
  rw [L9,Option.bind_some]
  obtain ⟨n,hn⟩:∃ n:Nat,min x z=n:=⟨(min x z).toNat,by omega⟩
  have hn8:n≤8:=by omega
  rw [hn]
  obtain ⟨r,c2,e2,h1,_,_,k2⟩:=Yq (F:=F) (c:=cu c1.a c1.b c1.c.v) (n:=8) k1 (by omega)
  rw [e2,Option.bind_some]
  have k2':Ck c2.a c2.b 20:=k2.le (by omega)
  cases (r,c2).1 == 0 with
  | true=>
    rw [cond_true]
    obtain ⟨l,e,hl⟩:=zeU K n hn8
    rw [← hK] at e
    rw [e,Option.bind_some]
    exact Mc k2' (by omega) (by omega)
  | false=>
    rw [cond_false]
    cases (r,c2).1 == 1 with
    | true=>
      rw [cond_true]
      by_cases h2:(n:Int) > 2
      · rw [decide_eq_true h2,cond_true]
        obtain ⟨l,e,hl⟩:=zjV (F:=F) (by omega) hn8
        rw [e,Option.bind_some]
        exact Mc k2' (by omega) (by omega)
      · rw [decide_eq_false h2,cond_false]
        exact Mc k2' (by omega) (by simp)
    | false=>
      rw [cond_false]
      cases (r,c2).1 == 2 with
      | true=>
        rw [cond_true]
        obtain ⟨l,e,hl⟩:=zcj K n hn8
        rw [← hK] at e
        rw [e,Option.bind_some]
        exact Mc k2' (by omega) (by omega)
      | false=>
        rw [cond_false]
        obtain ⟨r3,c3,e3,_,k3⟩:=J1 (F:=F) (c:=Cu.mk c2) (xs:=[3,4,6]) k2' (by omega) (by decide)
        have e3':xg F (Cu.mk (r,c2).2) [3,4,6]=some (r3,c3):=e3
        rw [e3',Option.bind_some]
        obtain ⟨r4,c4,e4,k4⟩:=zdw (F:=F) (c:=Cu.mk c3) (n:=6) k3 (by omega)
        have e4':wO F (Cu.mk (r3,c3).2) 6=some (r4,c4):=e4
        rw [e4',Option.bind_some]
        exact zms hn8 hF n 0 F c4.a c4.b c4.c.v [] (by omega) (by omega) (k4.le (by omega)) (by simp)
 unfold wi
 obtain ⟨r,c1,e1,hr,k1⟩:=J1 (F:=F) (c:=Cu.mk c.v) (xs:=[4,5,3,6,2,1,0]) h (by omega) (by decide)
 rw [e1,Option.bind_some]
 have hr0:0≤r:=by
  have:∀ y∈([4,5,3,6,2,1,0]:List Int),0≤y:=by decide
  exact this r hr
 by_cases h6:z > 6
 · rw [decide_eq_true h6,cond_true]
   obtain ⟨r2,c2,e2,k2⟩:=zdw (F:=F) (c:=Cu.mk c1) (n:=4) k1 (by omega)
   have e2':wO F (Cu.mk (r,c1).2) 4=some (r2,c2):=e2
   rw [e2',Option.bind_some]
   unfold wM
   cases (r2,c2).1 with
   | true=>
     rw [cond_true]
     obtain ⟨r3,c3,e3,h3,h4,_,k3⟩:=Yq (F:=F) (c:=cu c2.a c2.b c2.c.v) (n:=2) k2 (by omega)
     have e3':yj F (cu (r2,c2).2.a (r2,c2).2.b (r2,c2).2.c.v) 2=some (r3,c3):=e3
     rw [e3',Option.bind_some]
     have:=h4 (by omega)
     exact j5 c3 _ (k3.le (by omega)) (by show 0≤w64 (7 + r3);rw [yF (by omega) (by omega)];omega)
   | false=>exact j5 c2 r (k2.le (by omega)) hr0
 · rw [decide_eq_false h6,cond_false]
   exact j5 c1 r (k1.le (by omega)) hr0
theorem zfS {F:Nat} {code:LB} (hF:500≤F) (hc:∀ y∈code,0≤y.v∧y.v≤255):∃ g c,vS F (cu code 0 0)=some (g,c)∧g.2.length≤400∧Ck c.a c.b 5000:=by
 unfold vS
 obtain ⟨g,c',e,h1,h2⟩:=zaT (F:=F) (c:=Cu.mk (cu code 0 0).v) (z:=6) ⟨hc,Int.le_refl _,Int.le_refl _⟩ hF (by omega) (by omega)
 rw [e];exact ⟨g,c',rfl,h1,h2⟩
theorem zhK {α:Type} {xs:List α} {a b:Nat} (h:a≤b) (hb:b≤xs.length):∃ ys,sub xs (a:Int) (b:Int)=some ys∧ys.length=b - a:=by
 unfold sub
 rw [if_pos ⟨by omega,by omega,by omega⟩]
 exact ⟨_,rfl,by simp;omega⟩
theorem zf1 {F:Nat} {g:GR} (hF:500≤F):∀ (d i k:Nat) (a:LB) (b v:Int) (xs:List Int),i + d=(min g.1 8).toNat→d < k→Ck a b (5000 + 2 * i)→xs.length=i →
    ∃ l c',xD F g k a b v xs (i:Int)=some (l,c')∧l.length≤20∧Ck c'.a c'.b 6000:=by
 intro d
 have fin:∀ (i k:Nat) (a:LB) (b v:Int) (xs:List Int),¬ (i:Int) < min g.1 8→Ck a b (5000 + 2 * i)→xs.length=i→i≤8→∃ l c',xD F g (k + 1) a b v xs (i:Int)=some (l,c')∧l.length≤20∧Ck c'.a c'.b 6000:=by
  intro i k a b v xs hi hc hx h8
  simp only [xD]
  rw [L9,Option.bind_some,decide_eq_false hi,cond_false]
  obtain ⟨r,c1,e1,k1⟩:=zdw (F:=F) (c:=cu a b v) (n:=24) hc (by omega)
  rw [e1,Option.bind_some]
  cases (r,c1).1 with
  | true=>
    rw [cond_true]
    obtain ⟨r2,c2,e2,_,k2⟩:=J1 (F:=F) (c:=Cu.mk c1) (xs:=[0,(-1),8]) k1 (by omega) (by decide)
    have e2':xg F (Cu.mk (r,c1).2) [0,(-1),8]=some (r2,c2):=e2
    rw [e2',Option.bind_some,K2 (by simp;omega),Option.bind_some]
    exact ⟨_,_,rfl,by simp;omega,k2.le (by omega)⟩
  | false=>exact ⟨_,_,rfl,by omega,k1.le (by omega)⟩
 induction d with
 | zero=>
   intro i k a b v xs hj hk hc hx
   obtain ⟨k,rfl⟩:∃ k',k=k' + 1:=⟨k - 1,by omega⟩
   exact fin i k a b v xs (by omega) hc hx (by omega)
 | succ d ih=>
   intro i k a b v xs hj hk hc hx
   obtain ⟨k,rfl⟩:∃ k',k=k' + 1:=⟨k - 1,by omega⟩
   simp only [xD]
   rw [L9,Option.bind_some,decide_eq_true (by omega),cond_true,hx,zN (n:=i + 1) (by omega) (by unfold Sm;omega)]
   obtain ⟨r,c1,e1,h1,h2,_,k1⟩:=Yq (F:=F) (c:=cu a b v) (n:=((i + 1:Nat):Int)) hc (by omega)
   rw [e1,Option.bind_some]
   have:=h2 (by omega)
   obtain ⟨p,hp⟩:∃ p:Nat,r=p:=⟨r.toNat,by omega⟩
   subst hp
   obtain ⟨ys,s1,s2⟩:=zhK (xs:=xs) (a:=0) (b:=p) (by omega) (by omega)
   obtain ⟨zs,s3,s4⟩:=zhK (xs:=xs) (a:=p) (b:=i) (by omega) (by omega)
   have s1':sub xs 0 ((p:Int),c1).1=some ys:=s1
   have s3':sub xs ((p:Int),c1).1 (i:Int)=some zs:=s3
   rw [s1',Option.bind_some,K2 (by simp;omega),Option.bind_some,K2 (by simp;omega),Option.bind_some,s3',Option.bind_some,K2 (by simp;omega),Option.bind_some]
   exact ih (i + 1) k c1.a c1.b c1.c.v _ (by omega) (by omega) (k1.le (by omega)) (by simp;omega)
end Go.Zq
namespace Go.Zq
def mxL (xs:List Int):Nat→Int
 | 0=>0
 | i + 1=>if xs.getD i 0 > mxL xs i then xs.getD i 0 else mxL xs i
section
variable {F:Nat} {g:Gr} {l:List Int}
theorem zbo (hg:yA g=true) (ho:yV g.1 l=true):∀ i,i≤l.length→yy (xr l i) g.1.toNat=i
 | 0,_=>by
   have:yy (xr l 0) g.1.toNat=yy (fun _=>false) g.1.toNat:=Z1 fun j _=>by simp [xr]
   rw [this];simp [yy]
 | i + 1,h=>by
   obtain ⟨x,hx,hxn⟩:=zaZ hg ho (show i < l.length by omega)
   rw [Z1 (fun j _=>Yk (show i < l.length by omega) hx j),MB (Jc ho (zC hg).1 (by omega) hx) hxn,zbo hg ho i (by omega)]
end
end Go.Zq
namespace Go.Zq
def exb (g:Gr) (p:List Int) (x:Nat):Bool:=!bq p x && (p.length == 0 || adj g (p.getD (p.length - 1) 0).toNat x)
theorem zge {n:Nat} {p:List Int} (hl:p.length=n) (hnd:p.Nodup) (hr:∀ y∈p,0≤y∧y < (n:Int)) {x:Nat} (hx:x < n):bq p x=true:=by
 unfold bq
 refine decide_eq_true ?_
 by_cases h:(x:Int)∈p
 · exact h
 · have:=Kt n ((x:Int) :: p) (List.nodup_cons.2 ⟨h,hnd⟩) (by
    intro y hy
    rcases List.mem_cons.1 hy with rfl | hy
    · omega
    · exact hr y hy)
   rw [List.length_cons] at this
   omega
theorem ME {p:List Int} {x:Nat} (hnd:p.Nodup) (h:bq p x=false):(p++[(x:Int)]).Nodup:=by
 rw [List.nodup_append]
 refine ⟨hnd,by simp,?_⟩
 intro a ha b hb e
 have hb:b=(x:Int):=by simpa using hb
 subst e;subst hb
 exact of_decide_eq_false h ha
end Go.Zq
namespace Go.Zq
def nod (p:List Int) (i:Nat):Nat:=(p.getD i 0).toNat
def okB (g:Gr) (w:Nat) (p:List Int):Bool:=vU (fun j=>vU (fun i=>!adj g (nod p i) (nod p j) || decide (j≤i + w)) j) p.length
def Nl (g:Gr) (w:Nat) (p:List Int):Bool:=vU (fun i=>vU (fun y=>!adj g (nod p i) y || decide ((if bq p y then p.idxOf (y:Int) else p.length)≤i + w)) g.1.toNat) p.length
def Ue (g:Gr) (w:Nat) (p:List Int) (x:Nat):Bool:=vU (fun i=>!adj g (nod p i) x) (p.length - w)
def fsI (h:Int→Option (List Int)):List Int→Option (List Int)
 | []=>none
 | y :: L=>match h y with
   | some r=>some r
   | none=>fsI h L
def RF (g:Gr) (w:Nat):Nat→List Int→Option (List Int)
 | 0,p=>if okB g w p then some p else none
 | d + 1,p=>fsI (fun y=>RF g w d (p++[y])) (zD (fun x=>!bq p x) g.1.toNat)
def SL (g:Gr) (w:Nat):Nat→List Int→Option (List Int)
 | 0,p=>if Nl g w p then some p else none
 | d + 1,p=>if Nl g w p then fsI (fun y=>SL g w d (p++[y])) (zD (fun x=>!bq p x) g.1.toNat) else none
def NY (g:Gr) (w:Nat):Nat→List Int→Option (List Int)
 | 0,p=>some p
 | d + 1,p=>fsI (fun y=>NY g w d (p++[y])) (zD (fun x=>!bq p x && Ue g w p x) g.1.toNat)
theorem zbX {h:Int→Option (List Int)} {r:List Int}:∀ {L:List Int},fsI h L=some r→∃ y∈L,h y=some r
 | [],e=>by cases e
 | y :: L,e=>by
   simp only [fsI] at e
   split at e
   · rename_i r' hr
     cases e
     exact ⟨y,by simp,hr⟩
   · obtain ⟨z,hz,h1⟩:=zbX e
     exact ⟨z,by simp [hz],h1⟩
theorem J0 {h:Int→Option (List Int)}:∀ {L:List Int},fsI h L=none↔∀ y∈L,h y=none
 | []=>by simp [fsI]
 | y :: L=>by
   simp only [fsI]
   constructor
   · intro e
     split at e
     · cases e
     · rename_i hn
       intro z hz
       rcases List.mem_cons.1 hz with rfl | hz
       · exact hn
       · exact J0.1 e z hz
   · intro e
     rw [e y (by simp)]
     exact J0.2 fun z hz=>e z (by simp [hz])
theorem NR {h h':Int→Option (List Int)}:∀ {L:List Int},(∀ y∈L,h y=h' y)→fsI h L=fsI h' L
 | [],_=>rfl
 | y :: L,e=>by
   simp only [fsI]
   rw [e y (by simp),NR (L:=L) fun z hz=>e z (by simp [hz])]
theorem Un {h:Int→Option (List Int)}:∀ {L M:List Int},fsI h (L++M)=(match fsI h L with | some r=>some r | none=>fsI h M)
 | [],M=>rfl
 | y :: L,M=>by
   simp only [List.cons_append,fsI]
   cases h y with
   | some r=>rfl
   | none=>exact Un
structure Pre (g:Gr) (d:Nat) (p:List Int):Prop where
 len:p.length + d=g.1.toNat
 nd:p.Nodup
 rg:∀ y∈p,0≤y∧y < g.1
theorem Pre.snoc {g:Gr} {d:Nat} {p:List Int} {x:Nat} (h:Pre g (d + 1) p) (hx:x < g.1.toNat) (hb:bq p x=false):Pre g d (p++[(x:Int)]) where
 len:=by have:=h.len;rw [List.length_append,List.length_singleton];omega
 nd:=ME h.nd hb
 rg:=by
  intro y hy
  rcases List.mem_append.1 hy with h1 | h1
  · exact h.rg y h1
  · obtain rfl:y=(x:Int):=by simpa using h1
    omega
theorem Uh {g:Gr} {w:Nat} {p:List Int}:okB g w p=true↔∀ i j,i < j→j < p.length→adj g (nod p i) (nod p j)=true→j≤i + w:=by
 unfold okB
 rw [yE]
 constructor
 · intro h i j hij hj ha
   have:=(yE.1 (h j hj)) i hij
   rw [ha] at this
   simpa using this
 · intro h j hj
   rw [yE]
   intro i hi
   cases ha:adj g (nod p i) (nod p j) with
   | false=>rfl
   | true=>simpa using h i j hi hj ha
theorem YU {p t:List Int} {i:Nat} (hi:i < p.length):nod (p++t) i=nod p i:=by
 unfold nod
 rw [List.getD_eq_getElem?_getD,List.getElem?_append_left hi,← List.getD_eq_getElem?_getD]
theorem QJ {g:Gr} {w:Nat}:∀ (d:Nat) (p l:List Int),Pre g d p→RF g w d p=some l→∃ t,l=p++t∧Pre g 0 l∧okB g w l=true
 | 0,p,l,hp,h=>by
   simp only [RF] at h
   split at h
   · rename_i ho
     cases h
     exact ⟨[],by simp,hp,ho⟩
   · cases h
 | d + 1,p,l,hp,h=>by
   simp only [RF] at h
   obtain ⟨y,hy,h1⟩:=zbX h
   obtain ⟨x,rfl,hx,hb⟩:=xf.1 hy
   have hb:bq p x=false:=by simpa using hb
   obtain ⟨t,e,h2,h3⟩:=QJ d _ l (hp.snoc hx hb) h1
   exact ⟨(x:Int) :: t,by rw [e];simp,h2,h3⟩
theorem LV {p:List Int} {y:Nat} (hb:bq p y=true):p.idxOf (y:Int) < p.length∧nod p (p.idxOf (y:Int))=y:=by
 have hm:(y:Int)∈p:=of_decide_eq_true hb
 have h1:=List.idxOf_lt_length_iff.2 hm
 refine ⟨h1,?_⟩
 unfold nod
 rw [List.getD_eq_getElem?_getD,List.getElem?_eq_getElem h1,Option.getD_some,List.getElem_idxOf h1]
 rfl
theorem ziq {g:Gr} {w:Nat} {p t:List Int} (hp:Pre g 0 (p++t)) (ho:okB g w (p++t)=true):Nl g w p=true:=by
 have h:=Uh.1 ho
 unfold Nl
 rw [yE]
 intro i hi
 rw [yE]
 intro y hy
 cases ha:adj g (nod p i) y with
 | false=>rfl
 | true=>
   rw [Bool.not_true,Bool.false_or]
   refine decide_eq_true ?_
   cases hb:bq p y with
   | true=>
     rw [if_pos rfl]
     obtain ⟨h1,h2⟩:=LV hb
     by_cases hij:i < p.idxOf (y:Int)
     · have:=h i (p.idxOf (y:Int)) hij (by rw [List.length_append];omega)
       rw [YU hi,YU h1,h2] at this
       exact this ha
     · omega
   | false=>
     rw [if_neg (by simp)]
     have hbl:bq (p++t) y=true:=zge (by have:=hp.len;omega) hp.nd (fun z hz=>by have:=hp.rg z hz;omega) hy
     obtain ⟨h1,h2⟩:=LV hbl
     have hge:p.length≤(p++t).idxOf (y:Int):=by
      by_cases hlt:(p++t).idxOf (y:Int) < p.length
      · rw [YU hlt] at h2
        have hm:p.getD ((p++t).idxOf (y:Int)) 0∈p:=wg hlt
        have hr:=hp.rg _ (List.mem_append_left t hm)
        have:p.getD ((p++t).idxOf (y:Int)) 0=(y:Int):=by unfold nod at h2;omega
        rw [this] at hm
        have:=of_decide_eq_false hb
        exact absurd hm this
      · omega
     have:=h i _ (by omega) h1
     rw [YU hi,h2] at this
     have:=this ha
     omega
theorem zl4 {g:Gr} {w:Nat}:∀ (d:Nat) (p:List Int),Pre g d p→SL g w d p=RF g w d p
 | 0,p,hp=>by
   simp only [SL,RF]
   have:Nl g w p=okB g w p:=by
    rw [Bool.eq_iff_iff]
    constructor
    · intro hf
      rw [Uh]
      intro i j hij hj ha
      unfold Nl at hf
      rw [yE] at hf
      have h1:=hf i (by omega)
      rw [yE] at h1
      have hjm:p.getD j 0∈p:=wg hj
      have hr:=hp.rg _ hjm
      have h2:=h1 (nod p j) (by unfold nod;omega)
      rw [ha,Bool.not_true,Bool.false_or,decide_eq_true_eq] at h2
      have hjn:((nod p j:Nat):Int)=p.getD j 0:=by unfold nod;omega
      have hb:bq p (nod p j)=true:=by unfold bq;rw [hjn];exact decide_eq_true hjm
      rw [hb,if_pos rfl,hjn] at h2
      have:p.idxOf (p.getD j 0)=j:=by
       rw [List.getD_eq_getElem?_getD,List.getElem?_eq_getElem hj,Option.getD_some]
       exact hp.nd.idxOf_getElem j hj
      omega
    · intro ho
      have:=ziq (p:=p) (t:=[]) (by rw [List.append_nil];exact hp) (by rw [List.append_nil];exact ho)
      exact this
   rw [this]
 | d + 1,p,hp=>by
   simp only [SL]
   split
   · simp only [RF]
     refine NR fun y hy=>?_
     obtain ⟨x,rfl,hx,hb⟩:=xf.1 hy
     exact zl4 d _ (hp.snoc hx (by simpa using hb))
   · rename_i hf
     symm
     cases hr:RF g w (d + 1) p with
     | none=>rfl
     | some l=>
       obtain ⟨t,rfl,h1,h2⟩:=QJ _ _ _ hp hr
       exact absurd (ziq h1 h2) hf
theorem zj8 {g:Gr} {w:Nat} {p:List Int} {x:Nat} (ho:okB g w p=true) (hn:Ue g w p x=true):okB g w (p++[(x:Int)])=true:=by
 rw [Uh] at ho ⊢
 intro i j hij hj ha
 rw [List.length_append,List.length_singleton] at hj
 by_cases hjp:j < p.length
 · rw [YU hjp,YU (by omega)] at ha
   exact ho i j hij hjp ha
 · obtain rfl:j=p.length:=by omega
   have hx:nod (p++[(x:Int)]) p.length=x:=by unfold nod;simp
   rw [hx,YU hij] at ha
   unfold Ue at hn
   rw [yE] at hn
   by_cases hc:i < p.length - w
   · have:=hn i hc
     rw [ha] at this;cases this
   · omega
theorem zlR {g:Gr} {w:Nat}:∀ (d:Nat) (p:List Int),Pre g d p→okB g w p=true→NY g w d p=RF g w d p
 | 0,p,hp,ho=>by simp only [NY,RF,ho,if_true]
 | d + 1,p,hp,ho=>by
   simp only [NY,RF]
   have e1:∀ x:Nat,x < g.1.toNat→(!bq p x)=true→Ue g w p x=true→NY g w d (p++[(x:Int)])=RF g w d (p++[(x:Int)]):=by
    intro x hx hb hn
    exact zlR d _ (hp.snoc hx (by simpa using hb)) (zj8 ho hn)
   have e2:∀ x:Nat,x < g.1.toNat→(!bq p x)=true→Ue g w p x=false→RF g w d (p++[(x:Int)])=none:=by
    intro x hx hb hn
    cases hr:RF g w d (p++[(x:Int)]) with
    | none=>rfl
    | some l=>
      exfalso
      obtain ⟨t,rfl,h1,h2⟩:=QJ _ _ _ (hp.snoc hx (by simpa using hb)) hr
      rw [Uh] at h2
      have:Ue g w p x=true:=by
       unfold Ue
       rw [yE]
       intro i hi
       cases ha:adj g (nod p i) x with
       | false=>rfl
       | true=>
         have h3:=h2 i p.length (by omega) (by simp)
         have hx2:nod (p++[(x:Int)]++t) p.length=x:=by
          rw [YU (by simp)]
          unfold nod;simp
         rw [hx2,YU (by simp;omega),YU (by omega)] at h3
         have:=h3 ha
         omega
      rw [this] at hn;cases hn
   have key:∀ n,n≤g.1.toNat→fsI (fun y=>NY g w d (p++[y])) (zD (fun x=>!bq p x && Ue g w p x) n)=fsI (fun y=>RF g w d (p++[y])) (zD (fun x=>!bq p x) n):=by
    intro n
    induction n with
    | zero=>intro _;rfl
    | succ n ih=>
      intro hn
      rw [xm,xm,Un,Un,ih (by omega)]
      cases ha:(!bq p n) with
      | false=>simp [fsI]
      | true=>
        cases hb:Ue g w p n with
        | true=>
          simp only [Bool.and_self,if_true,fsI]
          rw [e1 n (by omega) ha hb]
        | false=>
          simp only [Bool.and_false,Bool.false_eq_true,if_false,if_true,fsI]
          rw [e2 n (by omega) ha hb]
   exact key _ (Nat.le_refl _)
theorem zfG {g:Gr} {w:Nat} (hw:g.1.toNat≤w + 1):∀ (d:Nat) (p:List Int),Pre g d p→∃ l,RF g w d p=some l
 | 0,p,hp=>by
   have ho:okB g w p=true:=by
    rw [Uh]
    intro i j _ hj _
    have:=hp.len
    omega
   exact ⟨p,by simp only [RF,ho,if_true]⟩
 | d + 1,p,hp=>by
   cases h:RF g w (d + 1) p with
   | some l=>exact ⟨l,rfl⟩
   | none=>
     exfalso
     simp only [RF] at h
     rw [J0] at h
     have hall:∀ j,j < g.1.toNat→(j:Int)∈p:=by
      intro j hj
      cases hb:bq p j with
      | true=>exact of_decide_eq_true hb
      | false=>
        obtain ⟨l,hl⟩:=zfG hw d _ (hp.snoc hj hb)
        have:=h (j:Int) (xf.2 ⟨j,rfl,hj,by rw [hb];rfl⟩)
        rw [hl] at this;cases this
     have:=(WA _ _ hall).1
     have:=hp.len
     omega
end Go.Zq
namespace Go.Zq
theorem zfZ {p q:Nat→Bool} {n:Nat}:vU (fun k=>q ((zD p n).getD k 0).toNat) (zD p n).length=vU (fun j=>!p j || q j) n:=by
 rw [Bool.eq_iff_iff,yE,yE]
 constructor
 · intro h j hj
   cases hp:p j with
   | false=>rfl
   | true=>
     have hm:(j:Int)∈zD p n:=xf.2 ⟨j,rfl,hj,hp⟩
     obtain ⟨t,ht,e⟩:=List.mem_iff_getElem.1 hm
     have:=h t ht
     rw [List.getD_eq_getElem?_getD,List.getElem?_eq_getElem ht,Option.getD_some,e,Int.toNat_natCast] at this
     rw [this];rfl
 · intro h k hk
   obtain ⟨y,hy,hyn,hyp⟩:=WV hk
   have:=h y hyn
   rw [hyp] at this
   simp only [hy,Int.toNat_natCast]
   simpa using this
end Go.Zq
namespace Go.Zq
theorem ze0 {F w:Nat} {g:Gr} {p:List Int} (hg:yA g=true) (hw:w≤8) (hl:p.length≤8) (hr:∀ y∈p,0≤y∧y < g.1) (hF:300≤F) (hG:g.2.length < F) (hs:Sm g.2.length):XW F g p (w:Int)=some (Nl g w p):=by
 have h8:=zC hg
 obtain ⟨n,hn⟩:∃ n:Nat,g.1.toNat=n:=⟨_,rfl⟩
 have hn8:n≤8:=by omega
 unfold XW
 rw [Yj (L:=fun k i=>w4 F p (w:Int) g k i) (n:=p.length) (p:=fun i=>vU (fun y=>!adj g (nod p i) y || decide ((if bq p y then p.idxOf (y:Int) else p.length)≤i + w)) g.1.toNat) (bad:=some false) (fin:=some true) ?_ ?_ F (by omega)]
 · unfold Nl
   cases vU (fun i=>vU (fun y=>!adj g (nod p i) y || decide ((if bq p y then p.idxOf (y:Int) else p.length)≤i + w)) g.1.toNat) p.length <;> rfl
 · intro k i hi
   have hy:=hr _ (wg (l:=p) (d:=0) hi)
   have hx:p.getD i 0=((nod p i:Nat):Int):=by unfold nod;omega
   have hnb:=zbf (F:=F) (x:=nod p i) hg (by omega) hG hs
   rw [hn] at hnb
   simp only [w4]
   rw [decide_eq_true (show (i:Int) < (p.length:Int) by omega),cond_true,zI (d:=0) hi,Option.bind_some,hx,hnb,Option.bind_some]
   have hl8:(zD (adj g (nod p i)) n).length≤8:=by rw [xb];exact Nat.le_trans vr hn8
   rw [Yj (L:=fun k2 t=>w8 F p (w:Int) g (i:Int) (zD (adj g (nod p i)) n) (w4 F p (w:Int) g k) k2 t) (n:=(zD (adj g (nod p i)) n).length)
    (p:=fun t=>decide ((if bq p ((zD (adj g (nod p i)) n).getD t 0).toNat then p.idxOf ((((zD (adj g (nod p i)) n).getD t 0).toNat:Nat):Int) else p.length)≤i + w)) (bad:=some false) (fin:=w4 F p (w:Int) g k ((i + 1:Nat):Int)) ?_ ?_ F (by omega)]
   · have:=zfZ (p:=adj g (nod p i)) (q:=fun y=>decide ((if bq p y then p.idxOf (y:Int) else p.length)≤i + w)) (n:=n)
     rw [this,hn]
   · intro k2 t ht
     obtain ⟨y,hy,hyn,_⟩:=WV ht
     simp only [w8,YZ]
     have hhas:vz F p (y:Int)=some (bq p y):=by rw [YV (by omega) (by unfold Sm;omega)];rfl
     rw [decide_eq_true (show (t:Int) < ((zD (adj g (nod p i)) n).length:Int) by omega),cond_true,zI (d:=0) ht,Option.bind_some,hy,hhas,Option.bind_some,Int.toNat_natCast,zN ht (by unfold Sm;omega)]
     cases hb:bq p y with
     | true=>
       have hm:(y:Int)∈p:=of_decide_eq_true hb
       have h1:=List.idxOf_lt_length_iff.2 hm
       rw [cond_true,Option.bind_some,L6 (by omega) (by unfold Sm;omega) hm,Option.bind_some,yF (by omega) (by omega),if_pos rfl]
       by_cases hc:p.idxOf (y:Int)≤i + w
       · rw [decide_eq_true hc,cond_true,decide_eq_false (by omega),cond_false]
       · rw [decide_eq_false hc,cond_false,decide_eq_true (by omega),cond_true]
     | false=>
       rw [cond_false,yF (by omega) (by omega),if_neg (by simp)]
       by_cases hc:p.length≤i + w
       · rw [decide_eq_true hc,cond_true,decide_eq_false (by omega),cond_false]
       · rw [decide_eq_false hc,cond_false,decide_eq_true (by omega),cond_true]
   · intro k2
     simp only [w8]
     rw [decide_eq_false (show ¬ ((zD (adj g (nod p i)) n).length:Int) < ((zD (adj g (nod p i)) n).length:Int) by omega),cond_false,zN hi (by unfold Sm;omega)]
 · intro k
   simp only [w4]
   rw [decide_eq_false (show ¬ (p.length:Int) < (p.length:Int) by omega),cond_false]
def zjT:Option (List Int)→List Int×Bool
 | some l=>(l,true)
 | none=>([],false)
theorem zk5 {F w:Nat} {g:Gr} (hg:yA g=true) (hw:w≤8) (hF:300≤F) (hG:g.2.length < F) (hs:Sm g.2.length) :
    ∀ (d:Nat) (p:List Int) (k:Nat),Pre g d p→d < k→wX F k g p (w:Int)=some (zjT (SL g w d p)):=by
 have h8:=zC hg
 obtain ⟨n,hn⟩:∃ n:Nat,g.1.toNat=n:=⟨_,rfl⟩
 have hn8:n≤8:=by omega
 have hgn:g.1=(n:Int):=by omega
 intro d
 induction d with
 | zero=>
   intro p k hp hk
   obtain ⟨k,rfl⟩:∃ k',k=k' + 1:=⟨k - 1,by omega⟩
   have hlen:=hp.len
   show uy F (wX F k) g p (w:Int)=_
   unfold uy
   rw [ze0 hg hw (by omega) hp.rg hF hG hs,Option.bind_some]
   simp only [SL]
   cases Nl g w p with
   | false=>rfl
   | true=>
     have:((p.length:Int) == g.1)=true:=by rw [beq_iff_eq];omega
     rw [Bool.not_true,cond_false,this,cond_true]
     rfl
 | succ d ih=>
   intro p k hp hk
   obtain ⟨k,rfl⟩:∃ k',k=k' + 1:=⟨k - 1,by omega⟩
   have hlen:=hp.len
   show uy F (wX F k) g p (w:Int)=_
   unfold uy
   rw [ze0 hg hw (by omega) hp.rg hF hG hs,Option.bind_some]
   simp only [SL]
   cases Nl g w p with
   | false=>rfl
   | true=>
     have h0:((p.length:Int) == g.1)=false:=by rw [beq_eq_false_iff_ne];omega
     rw [Bool.not_true,cond_false,h0,cond_false,if_pos rfl,hn]
     have key:∀ e x k2,x + e=n→e < k2→fsI (fun y=>SL g w d (p++[y])) (zD (fun x=>!bq p x) x)=none →
         wZ F (wX F k) p (w:Int) g k2 (x:Int)=some (zjT (fsI (fun y=>SL g w d (p++[y])) (zD (fun x=>!bq p x) n))):=by
      intro e
      induction e with
      | zero=>
        intro x k2 hx hk2 hnone
        obtain ⟨k2,rfl⟩:∃ k',k2=k' + 1:=⟨k2 - 1,by omega⟩
        obtain rfl:x=n:=by omega
        simp only [wZ]
        rw [hgn,decide_eq_false (show ¬ (x:Int) < (x:Int) by omega),cond_false,hnone];rfl
      | succ e ihe=>
        intro x k2 hx hk2 hnone
        obtain ⟨k2,rfl⟩:∃ k',k2=k' + 1:=⟨k2 - 1,by omega⟩
        have hhas:vz F p (x:Int)=some (bq p x):=by rw [YV (by omega) (by unfold Sm;omega)];rfl
        have hxn:x < n:=by omega
        simp only [wZ]
        rw [hgn,decide_eq_true (show (x:Int) < (n:Int) by omega),cond_true,hhas,Option.bind_some,zN hxn (by unfold Sm;omega)]
        cases hb:bq p x with
        | true=>
          rw [cond_true]
          refine ihe (x + 1) k2 (by omega) (by omega) ?_
          rw [xm,hb];simpa using hnone
        | false=>
          rw [cond_false,zhd (by omega),Option.bind_some]
          show ((wJ p [(x:Int)]).bind _)=_
          rw [wN (by omega),Option.bind_some,ih (p++[(x:Int)]) k (hp.snoc (by omega) hb) (by omega),Option.bind_some]
          cases hsl:SL g w d (p++[(x:Int)]) with
          | some l=>
            have hsp:∀ m,x < m→fsI (fun y=>SL g w d (p++[y])) (zD (fun x=>!bq p x) m)=some l:=by
             intro m
             induction m with
             | zero=>intro h;omega
             | succ m ihm=>
               intro h
               rw [xm,Un]
               by_cases e:x=m
               · subst e
                 rw [hnone,hb]
                 simp [fsI,hsl]
               · rw [ihm (by omega)]
            rw [hsp n hxn]
            simp only [zjT,cond_true]
          | none=>
            simp only [zjT,cond_false]
            refine ihe (x + 1) k2 (by omega) (by omega) ?_
            rw [xm,Un,hnone,hb]
            simp [fsI,hsl]
     exact key n 0 F (by omega) (by omega) rfl
theorem zkc {F a x:Nat} {g:Gr} (ha:a < g.1.toNat) (hx:x < g.1.toNat) (hg:yA g=true):Z7 F ⟨zW g⟩ (a:Int) (x:Int)=some (adj g a x):=by
 have h8:=zC hg
 unfold Z7
 rw [zI (d:=0) (by rw [wo];exact ha),Option.bind_some,WP ha]
 obtain ⟨q,q1,q2,_⟩:=U0 (m:=mkm (adj g a) g.1.toNat) (j:=x) (uh (by omega)) (by omega)
 rw [q1,Option.bind_some,q2,yN,decide_eq_true hx];rfl
theorem zlf {F w:Nat} {g:Gr} (hg:yA g=true) (hw:w≤8) (hF:300≤F) :
    ∀ (d:Nat) (o:NL Int) (k:Nat),Pre g d o.list→d < k→∃ o',zA F k ⟨zW g⟩ (w:Int) ⟨o⟩=some (o',(NY g w d o.list).isSome)∧∀ l,NY g w d o.list=some l→o'.list=l:=by
 have h8:=zC hg
 obtain ⟨n,hn⟩:∃ n:Nat,g.1.toNat=n:=⟨_,rfl⟩
 have hn8:n≤8:=by omega
 have hgn:g.1=(n:Int):=by omega
 intro d
 induction d with
 | zero=>
   intro o k hp hk
   obtain ⟨k,rfl⟩:∃ k',k=k' + 1:=⟨k - 1,by omega⟩
   have hlen:=hp.len
   refine ⟨o,?_,fun l h=>by cases h;rfl⟩
   show xx F (zA F k) ⟨zW g⟩ (w:Int) ⟨o⟩=_
   unfold xx Ze
   have:((o.list.length:Int) == ((zW g).length:Int))=true:=by rw [beq_iff_eq,wo];omega
   rw [Option.bind_some]
   show (bif ((o.list.length:Int) == ((zW g).length:Int)) then _ else _)=_
   rw [this,cond_true];rfl
 | succ d ih=>
   intro o k hp hk
   obtain ⟨k,rfl⟩:∃ k',k=k' + 1:=⟨k - 1,by omega⟩
   have hlen:=hp.len
   obtain ⟨p,hpe⟩:∃ p,o.list=p:=⟨_,rfl⟩
   show ∃ o',xx F (zA F k) ⟨zW g⟩ (w:Int) ⟨o⟩=_∧_
   unfold xx Ze
   rw [Option.bind_some]
   have h0:((o.list.length:Int) == ((zW g).length:Int))=false:=by rw [beq_eq_false_iff_ne,wo];omega
   show ∃ o',(bif ((o.list.length:Int) == ((zW g).length:Int)) then _ else _)=_∧_
   rw [h0,cond_false]
   simp only [NY]
   rw [hpe] at hp hlen ⊢
   rw [hn]
   obtain ⟨oc,q1,q2⟩:=zcP (xs:=p) (by omega)
   have key:∀ e x k2,x + e=n→e < k2→fsI (fun y=>NY g w d (p++[y])) (zD (fun x=>!bq p x && Ue g w p x) x)=none →
       ∃ o',zX F (zA F k) (w:Int) ⟨o⟩ ⟨zW g⟩ k2 (x:Int)=some (o',(fsI (fun y=>NY g w d (p++[y])) (zD (fun x=>!bq p x && Ue g w p x) n)).isSome) ∧
        ∀ l,fsI (fun y=>NY g w d (p++[y])) (zD (fun x=>!bq p x && Ue g w p x) n)=some l→o'.list=l:=by
    intro e
    induction e with
    | zero=>
      intro x k2 hx hk2 hnone
      obtain ⟨k2,rfl⟩:∃ k',k2=k' + 1:=⟨k2 - 1,by omega⟩
      obtain rfl:x=n:=by omega
      simp only [zX]
      rw [wo,hn,decide_eq_false (show ¬ (x:Int) < (x:Int) by omega),cond_false,hnone]
      exact ⟨.nil,rfl,fun l h=>by cases h⟩
    | succ e ihe=>
      intro x k2 hx hk2 hnone
      obtain ⟨k2,rfl⟩:∃ k',k2=k' + 1:=⟨k2 - 1,by omega⟩
      have hxn:x < n:=by omega
      simp only [zX]
      rw [wo,hn,decide_eq_true (show (x:Int) < (n:Int) by omega),cond_true]
      show ∃ o',((xN F o.list (x:Int)).bind _)=_∧_
      rw [hpe,zcG (by omega) (by unfold Sm;omega),Option.bind_some]
      have inner:∀ m f k3,m≤p.length - w→(p.length - w - m) < k3→(f=(!bq p x && vU (fun i=>!adj g (nod p i) x) m) ) →
          yK F (zA F k) (w:Int) ⟨o⟩ ⟨zW g⟩ (x:Int) (zX F (zA F k) (w:Int) ⟨o⟩ ⟨zW g⟩ k2) k3 f (m:Int) =
          (bif (!bq p x && Ue g w p x) then (zA F k ⟨zW g⟩ (w:Int) ⟨.of (p++[(x:Int)])⟩).bind fun r=>bif r.2 then some (r.1,true) else zX F (zA F k) (w:Int) ⟨o⟩ ⟨zW g⟩ k2 ((x + 1:Nat):Int)
           else zX F (zA F k) (w:Int) ⟨o⟩ ⟨zW g⟩ k2 ((x + 1:Nat):Int)):=by
       have hend:∀ f,(bif (!f) then zX F (zA F k) (w:Int) ⟨o⟩ ⟨zW g⟩ k2 (w64 ((x:Int) + 1)) else
           (wK F o.list).bind fun r_48=>(wJ r_48.list [(x:Int)]).bind fun ap_49=>(zA F k ⟨zW g⟩ (w:Int) ⟨.of ap_49⟩).bind fun r_50=>
             bif r_50.2 then some (r_50.1,true) else zX F (zA F k) (w:Int) ⟨o⟩ ⟨zW g⟩ k2 (w64 ((x:Int) + 1))) =
           (bif f then (zA F k ⟨zW g⟩ (w:Int) ⟨.of (p++[(x:Int)])⟩).bind fun r=>bif r.2 then some (r.1,true) else zX F (zA F k) (w:Int) ⟨o⟩ ⟨zW g⟩ k2 ((x + 1:Nat):Int)
            else zX F (zA F k) (w:Int) ⟨o⟩ ⟨zW g⟩ k2 ((x + 1:Nat):Int)):=by
        intro f
        rw [zN hxn (by unfold Sm;omega)]
        cases f with
        | false=>rfl
        | true=>
          rw [Bool.not_true,cond_false,cond_true,hpe]
          unfold wK
          rw [q1,Option.bind_some,q2,wN (by omega),Option.bind_some]
       intro m f k3
       induction k3 generalizing m f with
       | zero=>intro _ h;omega
       | succ k3 ih3=>
         intro hm hk3 hf
         have hw64:w64 ((o.list.length:Int) - (w:Int))=(p.length:Int) - w:=by rw [hpe,yF (by omega) (by omega)]
         simp only [yK,xT]
         show (bif decide ((m:Int) < w64 ((o.list.length:Int) - (w:Int))) then _ else _)=_
         rw [hw64]
         by_cases hlt:(m:Int) < (p.length:Int) - w
         · rw [decide_eq_true hlt,cond_true]
           have hmp:m < p.length:=by omega
           have hr:=hp.rg _ (wg (l:=p) (d:=0) hmp)
           have hxm:p.getD m 0=((nod p m:Nat):Int):=by unfold nod;omega
           cases f with
           | true=>
             rw [cond_true]
             show ((idx o.list (m:Int)).bind _)=_
             rw [hpe,zI (d:=0) hmp,Option.bind_some,hxm,zkc (by unfold nod;omega) (by omega) hg,Option.bind_some,zN (n:=p.length) hmp (by unfold Sm;omega)]
             refine ih3 (m + 1) _ (by omega) (by omega) ?_
             have hf':true=(!bq p x && vU (fun i=>!adj g (nod p i) x) m):=hf
             simp only [vU]
             cases hbx:bq p x with
             | true=>rw [hbx] at hf';simp at hf'
             | false=>
               rw [hbx] at hf'
               simp only [Bool.not_false,Bool.true_and] at hf' ⊢
               rw [← hf'];simp
           | false=>
             rw [cond_false]
             have hz:(!bq p x && Ue g w p x)=false:=by
              cases hbx:bq p x with
              | true=>rfl
              | false=>
                rw [hbx] at hf
                simp only [Bool.not_false,Bool.true_and] at hf ⊢
                have hnall:¬ vU (fun i=>!adj g (nod p i) x) m=true:=by rw [← hf];simp
                cases hnb:Ue g w p x with
                | false=>rfl
                | true=>
                  unfold Ue at hnb
                  rw [yE] at hnb
                  exact absurd (yE.2 fun i hi=>hnb i (by omega)) hnall
             have:=hend false
             rw [hz]
             exact this
         · rw [decide_eq_false hlt,cond_false]
           have hmm:m=p.length - w:=by omega
           have hz:(!bq p x && Ue g w p x)=f:=by rw [hf,hmm];rfl
           rw [hz]
           have:=hend f
           cases f with
           | true=>exact this
           | false=>exact this
      have hin:=inner 0 (!decide ((x:Int)∈p)) F (by omega) (by omega) (by
       show (!bq p x)=_
       simp [vU])
      have hin':yK F (zA F k) (w:Int) ⟨o⟩ ⟨zW g⟩ (x:Int) (zX F (zA F k) (w:Int) ⟨o⟩ ⟨zW g⟩ k2) F (!decide ((x:Int)∈p)) 0=_:=hin
      rw [hin']
      cases hbn:(!bq p x && Ue g w p x) with
      | false=>
        rw [cond_false]
        refine ihe (x + 1) k2 (by omega) (by omega) ?_
        rw [xm,hbn];simpa using hnone
      | true=>
        have hb:bq p x=false:=by
         cases h:bq p x with
         | false=>rfl
         | true=>rw [h] at hbn;cases hbn
        obtain ⟨o',p1,p2⟩:=ih (.of (p++[(x:Int)])) k (hp.snoc (by omega) hb) (by omega)
        have p2:∀ l,NY g w d (p++[(x:Int)])=some l→o'.list=l:=p2
        have p1:zA F k ⟨zW g⟩ (w:Int) ⟨.of (p++[(x:Int)])⟩=some (o',(NY g w d (p++[(x:Int)])).isSome):=p1
        rw [cond_true,p1,Option.bind_some]
        cases hny:NY g w d (p++[(x:Int)]) with
        | some l=>
          have hsp:∀ m,x < m→fsI (fun y=>NY g w d (p++[y])) (zD (fun x=>!bq p x && Ue g w p x) m)=some l:=by
           intro m
           induction m with
           | zero=>intro h;omega
           | succ m ihm=>
             intro h
             rw [xm,Un]
             by_cases e:x=m
             · subst e
               rw [hnone,hbn]
               simp [fsI,hny]
             · rw [ihm (by omega)]
          rw [hsp n hxn]
          simp only [Option.isSome_some,cond_true]
          exact ⟨o',rfl,fun l' h=>by cases h;exact p2 l hny⟩
        | none=>
          simp only [Option.isSome_none,cond_false]
          refine ihe (x + 1) k2 (by omega) (by omega) ?_
          rw [xm,Un,hnone,hbn]
          simp [fsI,hny]
   exact key n 0 F (by omega) (by omega) rfl
theorem zag {F:Nat} {g:Gr} (h9:300≤F) (hG:g.2.length < F) (hs:Sm g.2.length) :
    ∃ R c b o,xR F g=some (S3.mk R c b)∧uD F g=some (S3.mk o c b)∧o.list=R∧R.length≤8 ∧
     (yA g=true→b=true∧∃ W:Nat,c=(W:Int)∧Pre g 0 R∧okB g W R=true∧∀ j,j < W→RF g j g.1.toNat []=none):=by
 unfold xR uD
 rw [v7 hG hs,uH hG (by omega) hs,Option.bind_some,Option.bind_some]
 cases hg:yA g with
 | false=>exact ⟨[],0,false,.nil,rfl,rfl,rfl,by simp,fun h=>by cases h⟩
 | true=>
   have h8:=zC hg
   obtain ⟨n,hn⟩:∃ n:Nat,g.1.toNat=n:=⟨_,rfl⟩
   have hgn:g.1=(n:Int):=by omega
   rw [Bool.not_true,cond_false,cond_false,XD hg hG hs,Option.bind_some]
   have hp0:Pre g n []:=⟨by simp [hn],List.nodup_nil,by simp⟩
   have hok0:∀ w,okB g w []=true:=fun w=>rfl
   have hS:∀ w:Nat,w≤8→JP F g [] (w:Int)=some (zjT (RF g w n [])):=by
    intro w hw
    have:=zk5 hg hw h9 hG hs n [] F hp0 (by omega)
    rw [zl4 n [] hp0] at this
    exact this
   have hI:∀ w:Nat,w≤8→∃ o',vD F ⟨zW g⟩ (w:Int) ⟨.nil⟩=some (o',(RF g w n []).isSome)∧∀ l,RF g w n []=some l→o'.list=l:=by
    intro w hw
    have:=zlf (F:=F) hg hw h9 n .nil F hp0 (by omega)
    simp only [NL.list] at this
    rw [zlR n [] hp0 (hok0 w)] at this
    exact this
   by_cases hn0:n=0
   · subst hn0
     obtain ⟨o',p1,p2⟩:=hI 0 (by omega)
     have hr:RF g 0 0 []=some []:=rfl
     rw [hr] at p1 p2
     obtain ⟨F,rfl⟩:∃ F',F=F' + 1:=⟨F - 1,by omega⟩
     refine ⟨[],0,true,o',?_,?_,p2 [] rfl,by simp,fun _=>⟨rfl,0,rfl,hp0,rfl,fun j hj=>by omega⟩⟩
     · simp only [xj]
       rw [hgn];rfl
     · have p1':vD (F + 1) ⟨zW g⟩ 0 ⟨.nil⟩=some (o',true):=p1
       simp only [yW]
       rw [p1'];rfl
   · cases hf:Y1 (fun w=>(RF g w n []).isSome) n with
     | none=>
       have:=vn.1 hf (n - 1) (by omega)
       obtain ⟨l,hl⟩:=zfG (g:=g) (w:=n - 1) (by omega) n [] hp0
       rw [hl] at this;cases this
     | some W=>
       obtain ⟨w1,w2,w3⟩:=wL hf
       obtain ⟨l,hl⟩:=Option.isSome_iff_exists.1 w2
       obtain ⟨o',p1,p2⟩:=hI W (by omega)
       obtain ⟨t,ht,hpl,hok⟩:=QJ _ _ _ hp0 hl
       refine ⟨l,(W:Int),true,o',?_,?_,p2 l hl,by have:=hpl.len;omega,fun _=>⟨rfl,W,rfl,hpl,hok,fun j hj=>by have:=w3 j hj;rw [hn];simpa using this⟩⟩
       · refine WO (L:=fun k x=>xj F g k x) hf ?_ ?_ F (by omega)
         · intro k i hi hpi
           have hnone:RF g i n []=none:=by
            cases h:RF g i n [] with
            | none=>rfl
            | some r=>rw [h] at hpi;cases hpi
           simp only [xj]
           rw [hgn,decide_eq_true (show (i:Int) < (n:Int) by omega),cond_true,hS i (by omega),Option.bind_some,hnone,zN hi (by unfold Sm;omega)]
           rfl
         · intro k
           simp only [xj]
           rw [hgn,decide_eq_true (show (W:Int) < (n:Int) by omega),cond_true,hS W (by omega),Option.bind_some,hl]
           rfl
       · refine WO (L:=fun k x=>yW F ⟨zW g⟩ k x) hf ?_ ?_ F (by omega)
         · intro k i hi hpi
           have hnone:RF g i n []=none:=by
            cases h:RF g i n [] with
            | none=>rfl
            | some r=>rw [h] at hpi;cases hpi
           obtain ⟨o2,p3,_⟩:=hI i (by omega)
           simp only [yW]
           rw [p3,Option.bind_some,hnone,zN hi (by unfold Sm;omega)]
           rfl
         · intro k
           simp only [yW]
           rw [p1,Option.bind_some,hl]
           rfl
end Go.Zq
namespace Go.Zq
theorem zh5 {F:Nat} {g:Gr} {nn:Int} (hg:yA g=true) (hF:300≤F) :
    ∃ best:List Int,ye F ⟨zW g⟩ nn ⟨(⟨zW g⟩,()),()⟩=some best∧best.length=2 ^ g.1.toNat∧YG g.1.toNat (vk g) nn (fun m=>best.getD m 0):=by
 have h8:=zC hg
 obtain ⟨n,hn⟩:∃ n:Nat,g.1.toNat=n:=⟨_,rfl⟩
 have hn8:n≤8:=by omega
 have hpow:=Nat.two_pow_pos n
 have hp256:2 ^ n≤256:=by
  have:=Nat.pow_le_pow_right (n:=2) (by decide) hn8
  simpa using this
 have hall:yI F ⟨zW g⟩=some ((2 ^ n - 1:Nat):Int):=by
  unfold yI
  rw [wo,hn,xC (by omega),Option.bind_some,yF (by omega) (by omega)]
  congr 1;omega
 have hw:w64 (((2 ^ n - 1:Nat):Int) + 1)=((2 ^ n:Nat):Int):=by rw [yF (by omega) (by omega)];omega
 unfold ye
 rw [hall,Option.bind_some,hw,LH (by omega),Option.bind_some,Option.bind_some,hn]
 have key:∀ d k (best:List Int),d≤2 ^ n→d < k→best.length=2 ^ n →
     (∀ j,d≤j→j < 2 ^ n→best.getD j 0=mn (fun x=>max (vk g j x.toNat) (best.getD (j ||| 2 ^ x.toNat) 0)) (yT n j) nn) →
     ∃ b,zM F nn ⟨(⟨zW g⟩,()),()⟩ ⟨zW g⟩ k best ((d:Int) - 1)=some b∧b.length=2 ^ n∧YG n (vk g) nn (fun m=>b.getD m 0):=by
  intro d
  induction d with
  | zero=>
    intro k best _ hk hlen hrec
    obtain ⟨k,rfl⟩:∃ k',k=k' + 1:=⟨k - 1,by omega⟩
    refine ⟨best,?_,hlen,fun m hm=>hrec m (by omega) hm⟩
    simp only [zM]
    rw [decide_eq_false (by omega),cond_false]
  | succ d ih=>
    intro k best hd hk hlen hrec
    obtain ⟨k,rfl⟩:∃ k',k=k' + 1:=⟨k - 1,by omega⟩
    have hdn:d < 2 ^ n:=by omega
    have e0:((d + 1:Nat):Int) - 1=(d:Int):=by omega
    have hmk:xp .i64 ((2 ^ n - 1:Nat):Int) (d:Int)=((mkm (fun x=>!d.testBit x) n:Nat):Int):=by
     obtain ⟨c,hc,_,hb⟩:=Ye (a:=2 ^ n - 1) (b:=d) (by omega) (by omega)
     rw [hc]
     congr 1
     refine YE fun j=>?_
     rw [hb,Nat.testBit_two_pow_sub_one]
    have hl8:(yT n d).length≤8:=by unfold yT;rw [xb];exact Nat.le_trans vr hn8
    simp only [zM]
    rw [e0,decide_eq_true (by omega),cond_true,zI (d:=0) (by omega),Option.bind_some,hall,Option.bind_some,hmk,WH hn8 (by omega),Option.bind_some,Int.toNat_natCast]
    obtain ⟨s,hs,he⟩:=Wd (L:=fun k2 t s=>zR F nn ⟨(⟨zW g⟩,()),()⟩ ⟨zW g⟩ (d:Int) (yT n d) (zM F nn ⟨(⟨zW g⟩,()),()⟩ ⟨zW g⟩ k) k2 s t) (n:=(yT n d).length)
     (fun t s=>s=best.set d (mn (fun x=>max (vk g d x.toNat) (best.getD (d ||| 2 ^ x.toNat) 0)) ((yT n d).take t) nn)) (fin:=fun s=>zM F nn ⟨(⟨zW g⟩,()),()⟩ ⟨zW g⟩ k s ((d:Int) - 1)) (by
       intro k2 t s ht hI
       subst hI
       refine ⟨_,rfl,?_⟩
       obtain ⟨x,hx,hxn,hxb⟩:=vh.1 (wg (d:=0) ht)
       have hgt:=ZN d (by omega) x (by omega) hxb
       have hxp:=Nat.two_pow_pos x
       have hor:=WU hdn hxn
       have hcost:=zfA (F:=F) (m:=d) (x:=x) hg (by omega) (by rw [hn];exact hdn) (by rw [hn];exact hxn)
       have htake:(yT n d).take (t + 1)=(yT n d).take t++[(x:Int)]:=by
        rw [List.take_add_one,List.getElem?_eq_getElem ht]
        rw [List.getD_eq_getElem?_getD,List.getElem?_eq_getElem ht,Option.getD_some] at hx
        rw [hx];rfl
       have hget:∀ a:Int,(best.set d a).getD (d ||| 2 ^ x) 0=best.getD (d ||| 2 ^ x) 0:=by
        intro a
        rw [List.getD_eq_getElem?_getD,List.getElem?_set_ne (by omega),← List.getD_eq_getElem?_getD]
       have hgetd:∀ a:Int,(best.set d a).getD d 0=a:=by
        intro a
        rw [List.getD_eq_getElem?_getD,List.getElem?_set_self (by omega),Option.getD_some]
       simp only [zR,yQ,yS]
       rw [decide_eq_true (show (t:Int) < ((yT n d).length:Int) by omega),cond_true,zI (d:=0) ht,Option.bind_some,hx]
       rw [hcost,Option.bind_some,xC (by omega),Option.bind_some,Zt (by omega) (uR (by omega)),zI (d:=0) (by rw [List.length_set];omega),Option.bind_some,hget,zI (d:=0) (by rw [List.length_set];omega),Option.bind_some,Option.bind_some,hgetd,Int.toNat_natCast,List.set_set,zN ht (by unfold Sm;omega),htake,Km]
       have hmax:(if best.getD (d ||| 2 ^ x) 0 > vk g d x then best.getD (d ||| 2 ^ x) 0 else vk g d x)=max (vk g d x) (best.getD (d ||| 2 ^ x) 0):=by
        by_cases h:best.getD (d ||| 2 ^ x) 0 > vk g d x
        · rw [if_pos h,Int.max_eq_right (by omega)]
        · rw [if_neg h,Int.max_eq_left (by omega)]
       rw [hmax,Int.toNat_natCast]
       by_cases ht0:t=0
       · subst ht0
         rw [if_pos (.inl (by simp))]
         rfl
       · have hne:(yT n d).take t≠[]:=by
          intro e
          have:=congrArg List.length e
          rw [List.length_take] at this
          simp only [List.length_nil] at this
          omega
         have hb:((t:Int) == 0)=false:=by rw [beq_eq_false_iff_ne];omega
         rw [hb,cond_false]
         by_cases hlt:max (vk g d x) (best.getD (d ||| 2 ^ x) 0) < mn (fun x=>max (vk g d x.toNat) (best.getD (d ||| 2 ^ x.toNat) 0)) ((yT n d).take t) nn
         · rw [decide_eq_true hlt,cond_true,if_pos (.inr hlt)]
         · rw [decide_eq_false hlt,cond_false,if_neg (fun h=>h.elim hne hlt)]) (by
       intro k2 s hI
       simp only [zR]
       rw [decide_eq_false (show ¬ ((yT n d).length:Int) < ((yT n d).length:Int) by omega),cond_false,yF (by omega) (by omega)]) F (best.set d nn) (by omega) rfl
    have he':zR F nn ⟨(⟨zW g⟩,()),()⟩ ⟨zW g⟩ (d:Int) (yT n d) (zM F nn ⟨(⟨zW g⟩,()),()⟩ ⟨zW g⟩ k) F (best.set d nn) 0=zM F nn ⟨(⟨zW g⟩,()),()⟩ ⟨zW g⟩ k s ((d:Int) - 1):=he
    rw [List.take_length] at hs
    rw [show zD (fun x=>!d.testBit x) n=yT n d from rfl,he']
    refine ih k s (by omega) (by omega) (by rw [hs,List.length_set];exact hlen) ?_
    have hsd:s.getD d 0=mn (fun x=>max (vk g d x.toNat) (best.getD (d ||| 2 ^ x.toNat) 0)) (yT n d) nn:=by
     rw [hs,List.getD_eq_getElem?_getD,List.getElem?_set_self (by omega),Option.getD_some]
    have hsne:∀ j,j≠d→s.getD j 0=best.getD j 0:=by
     intro j hj
     rw [hs,List.getD_eq_getElem?_getD,List.getElem?_set_ne (by omega),← List.getD_eq_getElem?_getD]
    intro j h1 h2
    have hcg:mn (fun x=>max (vk g j x.toNat) (best.getD (j ||| 2 ^ x.toNat) 0)) (yT n j) nn=mn (fun x=>max (vk g j x.toNat) (s.getD (j ||| 2 ^ x.toNat) 0)) (yT n j) nn:=by
     refine UZ fun y hy=>?_
     obtain ⟨x,rfl,hxn,hxb⟩:=vh.1 hy
     have hgt:=ZN j (by omega) x (by omega) hxb
     have hxp:=Nat.two_pow_pos x
     rw [Int.toNat_natCast,hsne _ (by omega)]
    by_cases e:j=d
    · subst e;rw [hsd,hcg]
    · rw [hsne j e,hrec j (by omega) h2,hcg]
 have e1:((2 ^ n - 1:Nat):Int)=((2 ^ n:Nat):Int) - 1:=by omega
 rw [e1]
 exact key (2 ^ n) F _ (by omega) (by omega) (by simp) (fun j h1 h2=>absurd h2 (by omega))
end Go.Zq
namespace Go.Zq
theorem zf6 {F:Nat} {g:Gr} {best:List Int} (hg:yA g=true) (hF:300≤F) (hb:best.length=2 ^ g.1.toNat) :
    ∀ {d m:Nat} {l:List Int},Grd g.1.toNat (fun m x=>decide (max (vk g m x) (best.getD (m ||| 2 ^ x) 0)≤best.getD 0 0)) d m l →
    ∀ (o:NL Int) (k:Nat),d < k→o.list.length + d≤100→∃ o',z5 F best ⟨(⟨zW g⟩,()),()⟩ ⟨zW g⟩ k o (m:Int)=some o'∧o'.list=o.list++l:=by
 have h8:=zC hg
 obtain ⟨n,hn⟩:∃ n:Nat,g.1.toNat=n:=⟨_,rfl⟩
 have hn8:n≤8:=by omega
 have hpow:=Nat.two_pow_pos n
 have hp256:=Wq hn8
 have hall:yI F ⟨zW g⟩=some ((2 ^ n - 1:Nat):Int):=by
  unfold yI
  rw [wo,hn,xC (by omega),Option.bind_some,yF (by omega) (by omega)]
  congr 1;omega
 rw [hn] at hb ⊢
 intro d m l h
 induction h with
 | done=>
   intro o k hk _
   obtain ⟨k,rfl⟩:∃ k',k=k' + 1:=⟨k - 1,by omega⟩
   refine ⟨o,?_,by simp⟩
   simp only [z5]
   rw [hall,Option.bind_some,bne_self_eq_false,cond_false]
 | step hm hf hgrd ih=>
   rename_i d m x l
   intro o k hk ho
   obtain ⟨k,rfl⟩:∃ k',k=k' + 1:=⟨k - 1,by omega⟩
   obtain ⟨hx,hp,_⟩:=wL hf
   simp only [Bool.and_eq_true,Bool.not_eq_true',decide_eq_true_eq] at hp
   obtain ⟨hxb,hle⟩:=hp
   have hmf:m≠2 ^ n - 1:=by
    rintro rfl
    rw [Nat.testBit_two_pow_sub_one,decide_eq_true hx] at hxb;cases hxb
   have hmk:xp .i64 ((2 ^ n - 1:Nat):Int) (m:Int)=((mkm (fun x=>!m.testBit x) n:Nat):Int):=by
    obtain ⟨c,hc,_,hb⟩:=Ye (a:=2 ^ n - 1) (b:=m) (by omega) (by omega)
    rw [hc]
    congr 1
    refine YE fun j=>?_
    rw [hb,Nat.testBit_two_pow_sub_one]
   have hl8:(yT n m).length≤8:=by unfold yT;rw [xb];exact Nat.le_trans vr hn8
   obtain ⟨o',ho1,ho2⟩:=ih (.of (o.list++[(x:Int)])) k (by omega) (by show (o.list++[(x:Int)]).length + d≤100;rw [List.length_append,List.length_singleton];omega)
   refine ⟨o',?_,by rw [ho2];simp [NL.list]⟩
   have hne:(((m:Int)) != ((2 ^ n - 1:Nat):Int))=true:=by rw [bne_iff_ne];omega
   simp only [z5]
   rw [hall,Option.bind_some,hne,cond_true,Option.bind_some,hmk,WH hn8 (by omega),Option.bind_some]
   rw [Lp,Option.map_eq_some_iff] at hf
   obtain ⟨i,hi,hix⟩:=hf
   have hil:=(wL hi).1
   have hstep:∀ (i:Nat) (hi:i < (yT n m).length),∃ y:Nat,(yT n m).getD i 0=y∧y < n∧ve F ⟨zW g⟩ (m:Int) (y:Int)=some (vk g m y)∧uB .i64 1 (y:Int)=some ((2 ^ y:Nat):Int)∧ior .i64 (m:Int) ((2 ^ y:Nat):Int)=((m ||| 2 ^ y:Nat):Int)∧idx best (((m ||| 2 ^ y:Nat)):Int)=some (best.getD (m ||| 2 ^ y) 0):=by
    intro i hi
    obtain ⟨y,hy,hyn,hyb⟩:=vh.1 (wg (d:=0) hi)
    have:=WU hm hyn
    exact ⟨y,hy,hyn,zfA hg (by omega) (by rw [hn];exact hm) (by rw [hn];exact hyn),xC (by omega),Zt (by omega) (uR (by omega)),zI (by omega)⟩
   have hz:idx best 0=some (best.getD 0 0):=zI (xs:=best) (i:=0) (d:=0) (by omega)
   have hmax:∀ a b:Int,(if b > a then b else a)=max a b:=by
    intro a b
    by_cases h:b > a
    · rw [if_pos h,Int.max_eq_right (by omega)]
    · rw [if_neg h,Int.max_eq_left (by omega)]
   refine WO (L:=fun k2 i=>yb F best ⟨(⟨zW g⟩,()),()⟩ ⟨zW g⟩ o (m:Int) (yT n m) (z5 F best ⟨(⟨zW g⟩,()),()⟩ ⟨zW g⟩ k) k2 i) hi ?_ ?_ F (by show (yT n m).length < F;omega)
   · intro k2 i hi hpi
     obtain ⟨y,hy,hyn,y1,y2,y3,y4⟩:=hstep i hi
     have hpi:decide (max (vk g m ((yT n m).getD i 0).toNat) (best.getD (m ||| 2 ^ ((yT n m).getD i 0).toNat) 0)≤best.getD 0 0)=false:=hpi
     rw [hy,Int.toNat_natCast] at hpi
     simp only [yb]
     rw [decide_eq_true (show (i:Int) < ((yT n m).length:Int) from by have:i < (yT n m).length:=hi;omega),cond_true,zI (xs:=yT n m) (d:=0) hi,Option.bind_some,hy,y1,Option.bind_some,y2,Option.bind_some,y3,y4,Option.bind_some,hz,Option.bind_some,hmax,hpi,cond_false,zN (n:=(yT n m).length) hi (by have:(zD (fun x=>!m.testBit x) n).length≤8:=hl8;unfold Sm;omega)]
   · intro k2
     obtain ⟨y,hy,hyn,y1,y2,y3,y4⟩:=hstep i hil
     have hyx:y=x:=by
      have e:((yT n m).getD i 0).toNat=x:=hix
      rw [hy] at e;omega
     subst hyx
     have hle':decide (max (vk g m y) (best.getD (m ||| 2 ^ y) 0)≤best.getD 0 0)=true:=decide_eq_true hle
     simp only [yb]
     rw [decide_eq_true (show (i:Int) < ((yT n m).length:Int) from by have:i < (yT n m).length:=hil;omega),cond_true,zI (xs:=yT n m) (d:=0) hil,Option.bind_some,hy,y1,Option.bind_some,y2,Option.bind_some,y3,y4,Option.bind_some,hz,Option.bind_some,hmax,hle',cond_true,wN (by omega),Option.bind_some,Option.bind_some]
     rw [y3]
     exact ho1
end Go.Zq
namespace Go.Zq
theorem zmW {v:Int→Int} {l:List Int} {a b:Int} (h:l≠[]):mn v l a=mn v l b:=by
 unfold mn
 cases hm:mnO v l with
 | none=>exact absurd (Me.1 hm) h
 | some x=>rfl
theorem zhB {F:Nat} {g:Gr} (hg:yA g=true) (hF:300≤F) (hG:g.2.length < F) (hs:Sm g.2.length) :
    ∃ out:List Int,YK F g=some out∧out.length=2 ^ g.1.toNat∧YG g.1.toNat (vk g) 0 (fun m=>out.getD m 0):=by
 have h8:=zC hg
 obtain ⟨n,hn⟩:∃ n:Nat,g.1.toNat=n:=⟨_,rfl⟩
 have hn8:n≤8:=by omega
 have hgn:g.1=(n:Int):=by omega
 have hpow:=Nat.two_pow_pos n
 have hp256:=Wq hn8
 rw [hn]
 have key:∀ d k (out:List Int),d < 2 ^ n→d < k→out.length=2 ^ n→(∀ j,0≤out.getD j 0) →
     (∀ j,d≤j→j < 2 ^ n→out.getD j 0=mn (fun x=>max (vk g j x.toNat) (out.getD (j ||| 2 ^ x.toNat) 0)) (yT n j) 0) →
     ∃ b,wc F g k out ((d:Int) - 1)=some b∧b.length=2 ^ n∧YG n (vk g) 0 (fun m=>b.getD m 0):=by
  intro d
  induction d with
  | zero=>
    intro k out _ hk hlen _ hrec
    obtain ⟨k,rfl⟩:∃ k',k=k' + 1:=⟨k - 1,by omega⟩
    refine ⟨out,?_,hlen,fun m hm=>hrec m (by omega) hm⟩
    simp only [wc]
    rw [decide_eq_false (by omega),cond_false]
  | succ d ih=>
    intro k out hd hk hlen hpos hrec
    obtain ⟨k,rfl⟩:∃ k',k=k' + 1:=⟨k - 1,by omega⟩
    have hdn:d < 2 ^ n:=by omega
    have e0:((d + 1:Nat):Int) - 1=(d:Int):=by omega
    have hne:yT n d≠[]:=fun e=>by have:=(XL hdn).1 e;omega
    have hv0:∀ y:Int,0≤max (vk g d y.toNat) (out.getD (d ||| 2 ^ y.toNat) 0):=by
     intro y
     have:=Lh (g:=g) (m:=d ||| 2 ^ y.toNat)
     have:0≤vk g d y.toNat:=this
     omega
    simp only [wc]
    rw [e0,decide_eq_true (by omega),cond_true]
    have hl1:xO F g out (d:Int) (wc F g k) F (-1) 0=wc F g k (out.set d (mn (fun y=>max (vk g d y.toNat) (out.getD (d ||| 2 ^ y.toNat) 0)) (yT n d) (-1))) ((d:Int) - 1):=by
     refine wh (L:=fun k2 x b=>xO F g out (d:Int) (wc F g k) k2 b x) (n:=n) (fun x b=>b=mn (fun y=>max (vk g d y.toNat) (out.getD (d ||| 2 ^ y.toNat) 0)) (zD (fun j=>!d.testBit j) x) (-1)) ?_ ?_ F (-1) (by omega) rfl
     · intro k2 x b hx hI
       subst hI
       refine ⟨_,rfl,?_⟩
       obtain ⟨q,q1,q2,_⟩:=U0 (m:=d) (j:=x) (by omega) (by omega)
       simp only [xO,Yo,Yg]
       rw [hgn,decide_eq_true (show (x:Int) < (n:Int) by omega),cond_true,q1,Option.bind_some,q2,zN hx (by unfold Sm;omega)]
       cases hb:d.testBit x with
       | true=>
         rw [cond_true,xm,hb];simp
       | false=>
         have hgt:=ZN d (by omega) x (by omega) hb
         have hxp:=Nat.two_pow_pos x
         have hor:=WU hdn hx
         have hw:w64 ((d:Int) + ((2 ^ x:Nat):Int))=((d ||| 2 ^ x:Nat):Int):=by rw [yF (by omega) (by omega)];omega
         have hcut:ZM F g (zD (d ||| 2 ^ x).testBit n)=some (vk g d x):=by
          have:=zlp (F:=F) (m:=d ||| 2 ^ x) hg (by omega) hG hs (by rw [hn];exact hor)
          rw [hn] at this;exact this
         rw [cond_false,xC (by omega),Option.bind_some,hw,zat hn8 (by omega) (by omega),Option.bind_some,hcut,Option.bind_some,Option.bind_some,hw,zI (d:=0) (by omega),Option.bind_some,Ji,Option.bind_some,xm,hb,Bool.not_false,if_pos rfl,Km,Int.toNat_natCast]
         by_cases hl:zD (fun j=>!d.testBit j) x=[]
         · rw [hl,L5,if_pos (.inl rfl),decide_eq_true (by omega)];rfl
         · have h0:=YI (nn:=-1) (v:=fun y=>max (vk g d y.toNat) (out.getD (d ||| 2 ^ y.toNat) 0)) hl (fun y _=>hv0 y)
           rw [decide_eq_false (by omega),cond_false]
           by_cases hlt:max (vk g d x) (out.getD (d ||| 2 ^ x) 0) < mn (fun y=>max (vk g d y.toNat) (out.getD (d ||| 2 ^ y.toNat) 0)) (zD (fun j=>!d.testBit j) x) (-1)
           · rw [decide_eq_true hlt,cond_true,if_pos (.inr hlt)]
           · rw [decide_eq_false hlt,cond_false,if_neg (fun h=>h.elim hl hlt)]
     · intro k2 b hI
       subst hI
       simp only [xO]
       rw [hgn,decide_eq_false (show ¬ (n:Int) < (n:Int) by omega),cond_false,zI (d:=0) (by omega),Option.bind_some,yF (by omega) (by omega),Int.toNat_natCast]
       rfl
    rw [hl1]
    have hmnp:=YI (nn:=-1) (v:=fun y=>max (vk g d y.toNat) (out.getD (d ||| 2 ^ y.toNat) 0)) hne (fun y _=>hv0 y)
    have hsd:(out.set d (mn (fun y=>max (vk g d y.toNat) (out.getD (d ||| 2 ^ y.toNat) 0)) (yT n d) (-1))).getD d 0=mn (fun y=>max (vk g d y.toNat) (out.getD (d ||| 2 ^ y.toNat) 0)) (yT n d) (-1):=by
     rw [List.getD_eq_getElem?_getD,List.getElem?_set_self (by omega),Option.getD_some]
    have hsne:∀ j,j≠d→(out.set d (mn (fun y=>max (vk g d y.toNat) (out.getD (d ||| 2 ^ y.toNat) 0)) (yT n d) (-1))).getD j 0=out.getD j 0:=by
     intro j hj
     rw [List.getD_eq_getElem?_getD,List.getElem?_set_ne (by omega),← List.getD_eq_getElem?_getD]
    refine ih k _ (by omega) (by omega) (by rw [List.length_set];exact hlen) ?_ ?_
    · intro j
      by_cases e:j=d
      · subst e;rw [hsd];exact hmnp
      · rw [hsne j e];exact hpos j
    · intro j h1 h2
      have hcg:mn (fun x=>max (vk g j x.toNat) (out.getD (j ||| 2 ^ x.toNat) 0)) (yT n j) 0=mn (fun x=>max (vk g j x.toNat) ((out.set d (mn (fun y=>max (vk g d y.toNat) (out.getD (d ||| 2 ^ y.toNat) 0)) (yT n d) (-1))).getD (j ||| 2 ^ x.toNat) 0)) (yT n j) 0:=by
       refine UZ fun y hy=>?_
       obtain ⟨x,rfl,hxn,hxb⟩:=vh.1 hy
       have hgt:=ZN j (by omega) x (by omega) hxb
       have hxp:=Nat.two_pow_pos x
       rw [Int.toNat_natCast,hsne _ (by omega)]
      by_cases e:j=d
      · subst e;rw [hsd,← hcg];exact zmW hne
      · rw [hsne j e,hrec j (by omega) h2,hcg]
 unfold YK
 rw [hgn,xC (by omega),Option.bind_some,LH (by omega),Option.bind_some]
 have hw:w64 (((List.replicate (2 ^ n) (0:Int)).length:Int) - 2)=((2 ^ n - 1:Nat):Int) - 1:=by
  rw [List.length_replicate,yF (by omega) (by omega)];omega
 rw [hw]
 have hz:∀ j,(List.replicate (2 ^ n) (0:Int)).getD j 0=0:=by
  intro j
  rw [List.getD_eq_getElem?_getD,List.getElem?_replicate]
  split <;> rfl
 refine key (2 ^ n - 1) F _ (by omega) (by omega) (by simp) (fun j=>by rw [hz j];exact Int.le_refl _) ?_
 intro j h1 h2
 obtain rfl:j=2 ^ n - 1:=by omega
 rw [(XL (by omega)).2 rfl,L5,hz]
theorem zkH {F:Nat} {g:Gr} {T:List Int} (hg:yA g=true) (hF:300≤F) (hG:g.2.length < F) (hs:Sm g.2.length) (hb:T.length=2 ^ g.1.toNat) :
    ∀ {d m:Nat} {l:List Int},Grd g.1.toNat (fun m x=>decide (max (vk g m x) (T.getD (m ||| 2 ^ x) 0)≤T.getD 0 0)) d m l →
    ∀ (R:List Int) (k:Nat),d < k→R.length + d=g.1.toNat→xc F g T k R (m:Int)=some (S3.mk (R++l) (T.getD 0 0) true):=by
 have h8:=zC hg
 obtain ⟨n,hn⟩:∃ n:Nat,g.1.toNat=n:=⟨_,rfl⟩
 have hn8:n≤8:=by omega
 have hgn:g.1=(n:Int):=by omega
 have hpow:=Nat.two_pow_pos n
 have hp256:=Wq hn8
 rw [hn] at hb ⊢
 have hz:idx T 0=some (T.getD 0 0):=zI (xs:=T) (i:=0) (d:=0) (by omega)
 intro d m l h
 induction h with
 | done=>
   intro R k hk hR
   obtain ⟨k,rfl⟩:∃ k',k=k' + 1:=⟨k - 1,by omega⟩
   simp only [xc]
   rw [hgn,decide_eq_false (by omega),cond_false,hz,Option.bind_some,List.append_nil]
 | step hm hf hgrd ih=>
   rename_i d m x l
   intro R k hk hR
   obtain ⟨k,rfl⟩:∃ k',k=k' + 1:=⟨k - 1,by omega⟩
   obtain ⟨hx,hp,hlo⟩:=wL hf
   simp only [Bool.and_eq_true,Bool.not_eq_true',decide_eq_true_eq] at hp
   obtain ⟨hxb,hle⟩:=hp
   simp only [xc]
   rw [hgn,decide_eq_true (by omega),cond_true]
   have hst:∀ x:Nat,x < n→m.testBit x=false→uB .i64 1 (x:Int)=some ((2 ^ x:Nat):Int)∧w64 ((m:Int) + ((2 ^ x:Nat):Int))=((m ||| 2 ^ x:Nat):Int)∧ZH F (n:Int) (((m ||| 2 ^ x:Nat)):Int)=some (zD (m ||| 2 ^ x).testBit n)∧ZM F g (zD (m ||| 2 ^ x).testBit n)=some (vk g m x)∧idx T (((m ||| 2 ^ x:Nat)):Int)=some (T.getD (m ||| 2 ^ x) 0):=by
    intro x hx hb
    have hgt:=ZN m (by omega) x (by omega) hb
    have hxp:=Nat.two_pow_pos x
    have hor:=WU hm hx
    have hcut:=zlp (F:=F) (m:=m ||| 2 ^ x) hg (by omega) hG hs (by rw [hn];exact hor)
    rw [hn] at hcut
    exact ⟨xC (by omega),by rw [yF (by omega) (by omega)];omega,zat hn8 (by omega) (by omega),hcut,zI (by omega)⟩
   refine WO (L:=fun k2 i=>yx F g R T (m:Int) (xc F g T k) k2 i) hf ?_ ?_ F (by omega)
   · intro k2 i hi hpi
     obtain ⟨q,q1,q2,_⟩:=U0 (m:=m) (j:=i) (by omega) (by omega)
     simp only [yx,xQ]
     rw [q1,Option.bind_some,q2,cond_true,zN hi (by unfold Sm;omega)]
     cases hb:m.testBit i with
     | true=>rfl
     | false=>
       obtain ⟨a1,a2,a3,a4,a5⟩:=hst i hi hb
       have hpi:¬ max (vk g m i) (T.getD (m ||| 2 ^ i) 0)≤T.getD 0 0:=by
        have hpi:(!m.testBit i && decide (max (vk g m i) (T.getD (m ||| 2 ^ i) 0)≤T.getD 0 0))=false:=hpi
        rw [hb] at hpi
        simpa using hpi
       rw [cond_false,a1,Option.bind_some,a2,hgn,a3,Option.bind_some,a4,Option.bind_some,hz,Option.bind_some]
       by_cases hc:vk g m i > T.getD 0 0
       · rw [decide_eq_true hc,cond_true]
       · rw [decide_eq_false hc,cond_false,Option.bind_some,a2,a5,Option.bind_some,Option.bind_some,decide_eq_true (by omega),cond_true]
   · intro k2
     obtain ⟨q,q1,q2,_⟩:=U0 (m:=m) (j:=x) (by omega) (by omega)
     obtain ⟨a1,a2,a3,a4,a5⟩:=hst x hx hxb
     simp only [yx,xQ]
     rw [q1,Option.bind_some,q2,hxb,cond_false,a1,Option.bind_some,a2,hgn,a3,Option.bind_some,a4,Option.bind_some,hz,Option.bind_some,decide_eq_false (by omega),cond_false,Option.bind_some,a2,a5,Option.bind_some,Option.bind_some,decide_eq_false (by omega),cond_false,wN (by omega),Option.bind_some,Option.bind_some,a2]
     rw [ih (R++[(x:Int)]) k (by omega) (by rw [List.length_append,List.length_singleton];omega)]
     simp
end Go.Zq
namespace Go.Zq
def Nt (g:Gr) (x i:Nat):Option Int:=zdm .i64 (w64 (w64 (w64 ((yy (y9 g x (i + 1)) g.1.toNat:Int) - 1) + w64 (2 * ((i:Int) + 1))) - 1)) (w64 (2 * ((i:Int) + 1)))
def Nq (g:Gr) (x:Nat) (s:Int):Int:=(List.range g.1.toNat).foldl (fun s i=>max s ((Nt g x i).getD 0)) s
def Ns (g:Gr):Int:=(List.range g.1.toNat).foldl (fun s x=>Nq g x s) 0
theorem Qs {g:Gr} {x i:Nat} (hi:i < 100):Nt g x i=some ((Nt g x i).getD 0):=by
 unfold Nt zdm
 rw [if_neg]
 · rfl
 · rw [yF (by omega) (by omega)];omega
theorem zdD {F x:Nat} {g:Gr} {s0:Int} {c1:Int→Int→Option (Int×Bool)} (hg:yA g=true) (hx:x < g.1.toNat) (hF:20≤F) (hG:g.2.length < F) (hs:Sm g.2.length) :
    yZ F g (x:Int) c1 F s0 1=c1 (Nq g x s0) ((x + 1:Nat):Int):=by
 have h8:=zC hg
 obtain ⟨n,hn⟩:∃ n:Nat,g.1=n:=⟨g.1.toNat,by omega⟩
 have hnn:g.1.toNat=n:=by omega
 obtain ⟨s,_,h2,h3⟩:∃ s:Int,True∧yZ F g (x:Int) c1 F s0 (0 + 1)=c1 s ((x + 1:Nat):Int)∧s=Nq g x s0:=by
  unfold Nq
  refine uO (L:=fun k i s=>yZ F g (x:Int) c1 k s (i + 1)) (n:=g.1.toNat) (fun _ _=>True) (fin:=fun s=>c1 s ((x + 1:Nat):Int)) (fun i s=>max s ((Nt g x i).getD 0)) ?_ (fun _ _ _ _=>trivial) ?_ F s0 (by omega) trivial
  · intro k i s hi _
    simp only [yZ]
    have hlt:decide ((i:Int) + 1≤g.1)=true:=decide_eq_true (by omega)
    have hc:(i:Int) + 1=((i + 1:Nat):Int):=by omega
    rw [hlt,cond_true,hc,zcw hg hx (by omega) hF hG hs,Option.bind_some,xb,← hc]
    have hq:=Qs (g:=g) (x:=x) (i:=i) (by omega)
    unfold Nt at hq
    rw [hq,Option.bind_some,Ji,Option.bind_some]
    have hw:w64 ((i:Int) + 1 + 1)=((i + 1:Nat):Int) + 1:=by rw [yF (by omega) (by omega)];omega
    rw [hw];rfl
  · intro k s _
    simp only [yZ]
    have hlt:decide (((g.1.toNat:Nat):Int) + 1≤g.1)=false:=decide_eq_false (by omega)
    rw [hlt,cond_false,zN (n:=n) (by omega) (by unfold Sm;omega)]
 rw [← h3];exact h2
theorem zdb {F x:Nat} {g:Gr} {s0:Int} {c1:Int→Int→Option (Int×Bool)} (hg:yA g=true) (hx:x < g.1.toNat) (hF:40≤F) (hG:g.2.length < F) (hs:Sm g.2.length) :
    y5 F g ⟨zW g⟩ (x:Int) c1 F s0 1=c1 (Nq g x s0) ((x + 1:Nat):Int):=by
 have h8:=zC hg
 obtain ⟨n,hn⟩:∃ n:Nat,g.1=n:=⟨g.1.toNat,by omega⟩
 have hnn:g.1.toNat=n:=by omega
 obtain ⟨s,_,h2,h3⟩:∃ s:Int,True∧y5 F g ⟨zW g⟩ (x:Int) c1 F s0 (0 + 1)=c1 s ((x + 1:Nat):Int)∧s=Nq g x s0:=by
  unfold Nq
  refine uO (L:=fun k i s=>y5 F g ⟨zW g⟩ (x:Int) c1 k s (i + 1)) (n:=g.1.toNat) (fun _ _=>True) (fin:=fun s=>c1 s ((x + 1:Nat):Int)) (fun i s=>max s ((Nt g x i).getD 0)) ?_ (fun _ _ _ _=>trivial) ?_ F s0 (by omega) trivial
  · intro k i s hi _
    simp only [y5]
    have hlt:decide ((i:Int) + 1≤g.1)=true:=decide_eq_true (by omega)
    have hc:(i:Int) + 1=((i + 1:Nat):Int):=by omega
    rw [hlt,cond_true,hc,zkG hg (by omega) hx (by omega),Option.bind_some,zae (zaz (by omega)),Option.bind_some,MI (by omega),← hc]
    have hq:=Qs (g:=g) (x:=x) (i:=i) (by omega)
    unfold Nt at hq
    rw [hq,Option.bind_some]
    have hw:w64 ((i:Int) + 1 + 1)=((i + 1:Nat):Int) + 1:=by rw [yF (by omega) (by omega)];omega
    rw [hw]
    have hm:∀ a b:Int,(if a > b then a else b)=max b a:=by intro a b;split <;> omega
    rw [hm];rfl
  · intro k s _
    simp only [y5]
    have hlt:decide (((g.1.toNat:Nat):Int) + 1≤g.1)=false:=decide_eq_false (by omega)
    rw [hlt,cond_false,zN (n:=n) (by omega) (by unfold Sm;omega)]
 rw [← h3];exact h2
theorem zgh {F:Nat} {g:Gr} (hG:g.2.length < F) (hF:40≤F) (hs:Sm g.2.length):wy F g=some (bif yA g then (Ns g,true) else (0,false)):=by
 unfold wy
 rw [v7 hG hs,Option.bind_some]
 cases hg:yA g with
 | false=>rfl
 | true=>
   have h8:=zC hg
   rw [Bool.not_true,cond_false,cond_true]
   obtain ⟨s,_,h2,h3⟩:∃ s:Int,True∧yY F g F 0 0=some (s,true)∧s=Ns g:=by
    unfold Ns
    refine uO (L:=fun k i s=>yY F g k s i) (n:=g.1.toNat) (fun _ _=>True) (fin:=fun s=>some (s,true)) (fun x s=>Nq g x s) ?_ (fun _ _ _ _=>trivial) ?_ F 0 (by omega) trivial
    · intro k i s hi _
      simp only [yY]
      have hlt:decide ((i:Int) < g.1)=true:=decide_eq_true (by omega)
      rw [hlt,cond_true,zdD hg hi (by omega) hG hs]
    · intro k s _
      simp only [yY]
      have hlt:decide (((g.1.toNat:Nat):Int) < g.1)=false:=decide_eq_false (by omega)
      rw [hlt,cond_false]
   rw [h2,h3]
theorem zga {F:Nat} {g:Gr} (hG:g.2.length < F) (hF:40≤F) (hs:Sm g.2.length):wB F g=some (bif yA g then (Ns g,true) else (0,false)):=by
 unfold wB
 rw [uH hG (by omega) hs,Option.bind_some]
 cases hg:yA g with
 | false=>rfl
 | true=>
   have h8:=zC hg
   rw [Bool.not_true,cond_false,cond_true,XD hg hG hs,Option.bind_some]
   obtain ⟨s,_,h2,h3⟩:∃ s:Int,True∧y0 F g ⟨zW g⟩ F 0 0=some (s,true)∧s=Ns g:=by
    unfold Ns
    refine uO (L:=fun k i s=>y0 F g ⟨zW g⟩ k s i) (n:=g.1.toNat) (fun _ _=>True) (fin:=fun s=>some (s,true)) (fun x s=>Nq g x s) ?_ (fun _ _ _ _=>trivial) ?_ F 0 (by omega) trivial
    · intro k i s hi _
      simp only [y0]
      have hlt:decide ((i:Int) < g.1)=true:=decide_eq_true (by omega)
      rw [hlt,cond_true,zdb hg hi (by omega) hG hs]
    · intro k s _
      simp only [y0]
      have hlt:decide (((g.1.toNat:Nat):Int) < g.1)=false:=decide_eq_false (by omega)
      rw [hlt,cond_false]
   rw [h2,h3]
end Go.Zq
namespace Go.Zq
theorem zdy {F:Nat} {g:Gr} {l:List Int} (hg:yA g=true) (ho:yV g.1 l=true) (hF:l.length < F) (h20:20≤F):∃ o,Yn F ⟨zW g⟩ l=some o∧o.list=vV g l l.length:=by
 have h8:=zC hg
 have hlen:=wC ho
 obtain ⟨n,hn⟩:∃ n:Nat,g.1.toNat=n:=⟨_,rfl⟩
 unfold Yn
 obtain ⟨⟨a,b⟩,⟨h1,_⟩,h2⟩:=Wd (L:=fun k t (s:NL Int×Int)=>wb F ⟨zW g⟩ l k s.1 s.2 t) (n:=l.length) (fin:=fun s=>some s.1) (fun t s=>s.1.list=vV g l t∧s.2=((mkm (xr l t) g.1.toNat:Nat):Int)) (by
     rintro k t ⟨cs,m⟩ ht ⟨h1,h2⟩
     simp only at h1 h2
     subst h2
     have hy:=UK ho h8.1 _ (wg (d:=0) ht)
     obtain ⟨x,hx⟩:∃ x:Nat,l.getD t 0=x:=⟨(l.getD t 0).toNat,by omega⟩
     simp only [wb]
     have hlt:decide ((t:Int) < l.length)=true:=decide_eq_true (by omega)
     rw [hlt,cond_true,zI (d:=0) ht,Option.bind_some,hx,zdf hg (by omega) h20,Option.bind_some,wN (by rw [h1,ue];omega),Option.bind_some,xC (by omega),Option.bind_some,zN ht (by unfold Sm;omega)]
     have hS:(fun j=>xr l t j || j == x)=xr l (t + 1):=by funext j;rw [Yk ht hx]
     rw [hS]
     refine ⟨(_,_),⟨?_,?_⟩,rfl⟩
     · show cs.list++_=_
       rw [h1,JT,Ja hg]
     · show ior .i64 _ _=_
       rw [Zt (uh (by omega)) (uR (by omega))]
       congr 1
       refine YE fun j=>?_
       rw [Nat.testBit_or,yN,Nat.testBit_two_pow,Yk ht hx]
       by_cases e:x=j
       · subst e
         have:decide (x < g.1.toNat)=true:=decide_eq_true (by omega)
         rw [this];simp
       · have h1:decide (x=j)=false:=by simpa using e
         have h2:(j == x)=false:=by simp;omega
         rw [h1,h2];simp) (by
     rintro k ⟨cs,m⟩ ⟨h1,h2⟩
     simp only [wb]
     have hlt:decide ((l.length:Int) < l.length)=false:=decide_eq_false (by omega)
     rw [hlt,cond_false]) F (.nil,0) hF ⟨rfl,(by
     show (0:Int)=_
     have:mkm (xr l 0) g.1.toNat=0:=by
      rw [YN (q:=fun _=>false) (fun j _=>by simp [xr])]
      apply Nat.eq_of_testBit_eq;intro j;rw [yN];simp
     rw [this];rfl)⟩
 exact ⟨a,h2,h1⟩
theorem zhC {F:Nat} {g:Gr} {l:List Int} (hF:l.length < F) (hG:g.2.length < F) (h9:20≤F) (hl:Sm l.length) (hs:Sm g.2.length) :
    ∃ R b o,Yh F g l=some (R,b)∧Ug F g l=some (o,b)∧o.list=R∧R.length≤8:=by
 unfold Yh vT Ug
 rw [v7 hG hs,uH hG (by omega) hs,Option.bind_some,Option.bind_some]
 cases h:yA g with
 | false=>exact ⟨[],false,.nil,rfl,rfl,rfl,by simp⟩
 | true=>
   have h8:=zC h
   simp only [Bool.not_true,cond_true,cond_false]
   rw [Jh h8.1 h8.2 hF (by omega) hl,JL h8.1 h8.2 hF hl]
   cases ho:yV g.1 l with
   | false=>exact ⟨[],false,.nil,rfl,rfl,rfl,by simp⟩
   | true=>
     have hlen:=wC ho
     obtain ⟨o,h1,h2⟩:=zdy h ho hF h9
     refine ⟨vV g l l.length,true,o,?_,?_,h2,by rw [ue];omega⟩
     · simp only [Option.bind_some,Bool.not_true,cond_false]
       rw [Mz h hF hG (by omega) hs,Option.bind_some]
     · simp only [Option.bind_some,Bool.not_true,YP,cond_false]
       rw [XD h hG hs,Option.bind_some,h1,Option.bind_some]
end Go.Zq
namespace Go.Zq
theorem LY {n:Nat} {f:Int→Nat→Int} {t:Int} (h:∀ s x,x < n→s≤t→f s x≤t):∀ s0,s0≤t→(List.range n).foldl f s0≤t:=by
 induction n with
 | zero=>intro s0 h0;simpa using h0
 | succ n ih=>
   intro s0 h0
   rw [List.range_succ,List.foldl_append]
   exact h _ n (by omega) (ih (fun s x hx hs=>h s x (by omega) hs) s0 h0)
theorem zad {n:Nat} {f:Nat→Int}:∀ s0:Int,s0≤(List.range n).foldl (fun s i=>max s (f i)) s0∧∀ i,i < n→f i≤(List.range n).foldl (fun s i=>max s (f i)) s0:=by
 induction n with
 | zero=>intro s0;exact ⟨by simp,fun i hi=>by omega⟩
 | succ n ih=>
   intro s0
   rw [List.range_succ,List.foldl_append]
   obtain ⟨h1,h2⟩:=ih s0
   show s0≤max _ (f n)∧∀ i,i < n + 1→f i≤max _ (f n)
   refine ⟨by omega,fun i hi=>?_⟩
   by_cases e:i=n
   · subst e;omega
   · have:=h2 i (by omega);omega
theorem QW {l:List Int}:Ux l=(List.range l.length).foldl (fun s i=>max s (l.getD i 0)) 0:=(WN (h:=fun (s:Int) (y:Int)=>max s y) (d:=0) l 0).symm
theorem zkS {l:List Int} {t:Int} (h0:0≤t) (h:∀ i,i < l.length→l.getD i 0≤t):Ux l≤t:=by
 rw [QW]
 exact LY (fun s x hx hs=>by have:=h x hx;show max s _≤t;omega) 0 h0
theorem zd8 {l:List Int}:0≤Ux l∧∀ i,i < l.length→l.getD i 0≤Ux l:=by
 rw [QW]
 exact zad 0
/-! orders -/
section
variable {g:Gr} {l:List Int}
theorem LU (hg:yA g=true) (ho:yV g.1 l=true):Pre g 0 l where
 len:=by have:=wC ho;have:=zC hg;omega
 nd:=by
  have h8:=zC hg
  unfold List.Nodup
  rw [List.pairwise_iff_getElem]
  intro i j hi hj hij e
  obtain ⟨x,hx,hxn⟩:=zaZ hg ho hj
  have h1:=Jc ho h8.1 hj hx
  have hxi:l.getD i 0=(x:Int):=by
   rw [← hx,List.getD_eq_getElem?_getD,List.getD_eq_getElem?_getD,List.getElem?_eq_getElem hi,List.getElem?_eq_getElem hj,e]
  have h2:=zk3 hij hi hxi
  rw [h1] at h2;cases h2
 rg:=UK ho (zC hg).1
theorem zkU (hg:yA g=true) (hp:Pre g 0 l):yV g.1 l=true:=by
 have h8:=zC hg
 have hlen:=hp.len
 unfold yV
 rw [Bool.and_eq_true]
 refine ⟨decide_eq_true (by omega),?_⟩
 rw [yE]
 intro j hj
 rw [decide_eq_true_eq]
 apply Classical.byContradiction
 intro hm
 have hb:bq l j=false:=decide_eq_false hm
 have:=Kt g.1.toNat (l++[(j:Int)]) (ME hp.nd hb) (fun x hx=>by
  rcases List.mem_append.1 hx with h | h
  · have:=hp.rg x h;omega
  · obtain rfl:x=(j:Int):=by simpa using h
    omega)
 rw [List.length_append,List.length_singleton] at this
 omega
theorem JF (ho:yV g.1 l=true) {a:Nat} (ha:a < g.1.toNat):bq l a=true:=decide_eq_true (Yf ho (x:=(a:Int)) (by omega) (by omega))
def pos (l:List Int) (a:Nat):Nat:=l.idxOf (a:Int)
theorem zim (ho:yV g.1 l=true) {a:Nat} (ha:a < g.1.toNat):pos l a < l.length∧nod l (pos l a)=a:=LV (JF ho ha)
theorem Je {a i:Nat} (hp:Pre g 0 l) (ha:bq l a=true):xr l i a=true↔pos l a < i:=by
 unfold xr pos
 rw [decide_eq_true_eq]
 have h1:=LV ha
 constructor
 · intro h
   have:=List.idxOf_lt_length_iff.2 h
   rw [List.length_take] at this
   have e:(l.take i).idxOf (a:Int)=l.idxOf (a:Int):=by
    conv=>rhs;rw [← List.take_append_drop i l]
    rw [List.idxOf_append,if_pos h]
   omega
 · intro h
   refine List.mem_iff_getElem.2 ⟨l.idxOf (a:Int),by rw [List.length_take];omega,?_⟩
   rw [List.getElem_take,List.getElem_idxOf]
theorem zd6 (hp:Pre g 0 l) {i:Nat} (hi:i < l.length):pos l (nod l i)=i:=by
 unfold pos nod
 have h:=hp.rg _ (wg (d:=0) hi)
 rw [Int.toNat_of_nonneg h.1,List.getD_eq_getElem?_getD,List.getElem?_eq_getElem hi]
 show l.idxOf l[i]=i
 exact List.Nodup.idxOf_getElem hp.nd i hi
theorem zbb {w a b:Nat} (ho:yV g.1 l=true) (hw:okB g w l=true) (hg:yA g=true) (h:adj g a b=true):pos l a≤pos l b + w∧pos l b≤pos l a + w:=by
 have h8:=zC hg
 obtain ⟨ha,hb,hne⟩:=L1 hg h
 obtain ⟨p1,p2⟩:=zim ho (show a < g.1.toNat by omega)
 obtain ⟨q1,q2⟩:=zim ho (show b < g.1.toNat by omega)
 have hk:=Uh.1 hw
 have hpq:pos l a≠pos l b:=by
  intro e;rw [e,q2] at p2;exact hne p2.symm
 by_cases hlt:pos l a < pos l b
 · have:=hk _ _ hlt q1 (by rw [p2,q2];exact h)
   omega
 · have:=hk (pos l b) (pos l a) (by omega) p1 (by rw [p2,q2,zjt];exact h)
   omega
theorem zch {w:Nat} (hg:yA g=true) (ho:yV g.1 l=true):Xg l g.2≤(w:Int)↔okB g w l=true:=by
 have h8:=zC hg
 have hp:=LU hg ho
 constructor
 · intro h
   rw [Uh]
   intro i j hij hj ha
   obtain ⟨k,hk,hjn⟩:=wP.1 ha
   have h2:=(zad (n:=g.2.length) (f:=fun i=>far l (g.2.getD i (0,0))) 0).2 k hk
   have h3:far l (g.2.getD k (0,0))≤(w:Int):=Int.le_trans h2 h
   have e1:((nod l i:Nat):Int)=((nod l i:Nat):Int):=rfl
   have p1:=zd6 hp (show i < l.length by omega)
   have p2:=zd6 hp hj
   unfold pos at p1 p2
   unfold wD at hjn
   simp only [Bool.or_eq_true,Bool.and_eq_true,beq_iff_eq] at hjn
   unfold far at h3
   rcases hjn with ⟨e1,e2⟩ | ⟨e1,e2⟩
   · rw [e1,e2,p1,p2] at h3;omega
   · rw [e1,e2,p1,p2] at h3;omega
 · intro h
   unfold Xg
   refine LY (fun s x hx hs=>?_) 0 (by omega)
   obtain ⟨e1,e2,e3⟩:=Zm hg hx
   obtain ⟨a,ha⟩:∃ a:Nat,(g.2.getD x (0,0)).1=a:=⟨(g.2.getD x (0,0)).1.toNat,by omega⟩
   obtain ⟨b,hb⟩:∃ b:Nat,(g.2.getD x (0,0)).2=b:=⟨(g.2.getD x (0,0)).2.toNat,by omega⟩
   have hadj:adj g a b=true:=wP.2 ⟨x,hx,by unfold wD;rw [ha,hb];simp⟩
   have:=zbb ho h hg hadj
   unfold pos at this
   show max s (far l _)≤(w:Int)
   unfold far
   rw [ha,hb]
   omega
theorem zbY:0≤Xg l g.2:=(zad (n:=g.2.length) (f:=fun i=>far l (g.2.getD i (0,0))) 0).1
theorem zb3 {w:Nat}:∀ (d:Nat) (p t:List Int),Pre g d p→Pre g 0 (p++t)→okB g w (p++t)=true→RF g w d p≠none
 | 0,p,t,hp,hpt,ho=>by
   have h1:=hp.len
   have h2:=hpt.len
   rw [List.length_append] at h2
   obtain rfl:t=[]:=List.eq_nil_of_length_eq_zero (by omega)
   rw [List.append_nil] at ho
   simp [RF,ho]
 | d + 1,p,[],hp,hpt,_=>by
   have h1:=hp.len
   have h2:=hpt.len
   rw [List.append_nil] at h2
   omega
 | d + 1,p,y :: t,hp,hpt,ho=>by
   have hy:=hpt.rg y (by simp)
   obtain ⟨x,hx⟩:∃ x:Nat,y=x:=⟨y.toNat,by omega⟩
   subst hx
   have hb:bq p x=false:=by
    unfold bq
    rw [decide_eq_false_iff_not]
    intro hm
    have:=List.nodup_append.1 hpt.nd
    exact this.2.2 _ hm _ (by simp) rfl
   intro h
   simp only [RF] at h
   have hm:(x:Int)∈zD (fun x=>!bq p x) g.1.toNat:=xf.2 ⟨x,rfl,by omega,by simp [hb]⟩
   have h1:=J0.1 h _ hm
   refine zb3 d (p++[(x:Int)]) t (hp.snoc (by omega) hb) ?_ ?_ h1
   · rw [List.append_assoc];exact hpt
   · rw [List.append_assoc];exact ho
theorem zdi {R:List Int} {W:Nat} (hg:yA g=true) (hp:Pre g 0 R) (ho:okB g W R=true) (hmin:∀ j,j < W→RF g j g.1.toNat []=none):yV g.1 R=true∧Xg R g.2=(W:Int)∧∀ l,yV g.1 l=true→(W:Int)≤Xg l g.2:=by
 have h8:=zC hg
 have hR:=zkU hg hp
 have low:∀ l,yV g.1 l=true→(W:Int)≤Xg l g.2:=by
  intro l hl
  apply Classical.byContradiction
  intro hlt
  have h0:=zbY (g:=g) (l:=l)
  obtain ⟨b,hb⟩:∃ b:Nat,Xg l g.2=b:=⟨(Xg l g.2).toNat,by omega⟩
  have hok:=(zch (w:=b) hg hl).1 (by omega)
  exact zb3 g.1.toNat [] l ⟨by simp,List.nodup_nil,by simp⟩ (LU hg hl) hok (hmin b (by omega))
 have:=(zch (w:=W) hg hR).2 ho
 have:=low R hR
 exact ⟨hR,by omega,low⟩
/-! balls -/
theorem Kh {w x:Nat} (hg:yA g=true) (ho:yV g.1 l=true) (hw:okB g w l=true):∀ (r j:Nat),y9 g x r j=true→pos l j≤pos l x + r * w∧pos l x≤pos l j + r * w
 | 0,j,h=>by
   have:j=x:=by simpa [y9] using h
   subst this;omega
 | r + 1,j,h=>by
   rw [Nat.succ_mul]
   rcases Ny h with h | ⟨y,_,h1,h2⟩
   · have:=Kh hg ho hw r j h;omega
   · have h3:=Kh hg ho hw r y h1
     have h4:=zbb ho hw hg h2
     omega
theorem zhk {p q:Nat→Bool} {n:Nat} (h:∀ j,j < n→q j=true→p j=true):yy (fun j=>p j && !q j) n + yy q n=yy p n:=by
 induction n with
 | zero=>simp [yy]
 | succ n ih=>
   have h1:=ih fun j hj=>h j (by omega)
   have h2:=h n (by omega)
   unfold yy at *
   rw [List.range_succ,List.countP_append,List.countP_append,List.countP_append]
   simp only [List.countP_cons,List.countP_nil]
   cases hp:p n <;> cases hq:q n <;> simp_all <;> omega
theorem JK {q:Nat→Bool} {a m:Nat} (hg:yA g=true) (ho:yV g.1 l=true) (h:∀ j,j < g.1.toNat→q j=true→a≤pos l j∧pos l j < a + m):yy q g.1.toNat≤m:=by
 have h8:=zC hg
 have hlen:=wC ho
 have hp:=LU hg ho
 have h1:=Mi (p:=q) (q:=fun j=>xr l (a + m) j && !xr l a j) (n:=g.1.toNat) (fun j hj hq=>by
  have h2:=h j hj hq
  have h3:=(Je (i:=a + m) hp (JF ho hj)).2 h2.2
  have h4:xr l a j=false:=by
   cases e:xr l a j with
   | false=>rfl
   | true=>have:=(Je hp (JF ho hj)).1 e;omega
  rw [h3,h4];rfl)
 have h2:=zhk (p:=xr l (a + m)) (q:=xr l a) (n:=g.1.toNat) (fun j hj e=>(Je hp (JF ho hj)).2 (by have:=(Je hp (JF ho hj)).1 e;omega))
 have cp:∀ i,yy (xr l i) g.1.toNat=min i l.length:=by
  intro i
  by_cases hi:i≤l.length
  · rw [zbo hg ho i hi];omega
  · have e:xr l i=xr l l.length:=by funext j;unfold xr;rw [List.take_of_length_le (by omega),List.take_length]
    rw [e,zbo hg ho l.length (Nat.le_refl _)];omega
 rw [cp,cp] at h2
 omega
theorem zmo {W:Nat} (hg:yA g=true) (ho:yV g.1 l=true) (hw:okB g W l=true):Ns g≤(W:Int):=by
 have h8:=zC hg
 unfold Ns
 refine LY (fun s x hx hs=>?_) 0 (by omega)
 unfold Nq
 refine LY (fun s i hi hs=>?_) s hs
 have hq:(Nt g x i).getD 0≤(W:Int):=by
  have hc:yy (y9 g x (i + 1)) g.1.toNat≤2 * ((i + 1) * W) + 1:=by
   by_cases hlow:(i + 1) * W≤pos l x
   · exact JK (a:=pos l x - (i + 1) * W) hg ho fun j _ hj=>by have:=Kh hg ho hw (i + 1) j hj;omega
   · have:=JK (a:=0) (m:=pos l x + (i + 1) * W + 1) (q:=y9 g x (i + 1)) hg ho fun j _ hj=>by have:=Kh hg ho hw (i + 1) j hj;omega
     omega
  have hle:yy (y9 g x (i + 1)) g.1.toNat≤g.1.toNat:=vr
  unfold Nt zdm
  generalize yy (y9 g x (i + 1)) g.1.toNat=c at hc hle
  have e1:w64 (2 * ((i:Int) + 1))=2 * ((i:Int) + 1):=yF (by omega) (by omega)
  have e2:w64 ((c:Int) - 1)=(c:Int) - 1:=yF (by omega) (by omega)
  have e3:w64 ((c:Int) - 1 + 2 * ((i:Int) + 1))=(c:Int) - 1 + 2 * ((i:Int) + 1):=yF (by omega) (by omega)
  have e4:w64 ((c:Int) - 1 + 2 * ((i:Int) + 1) - 1)=(c:Int) - 1 + 2 * ((i:Int) + 1) - 1:=yF (by omega) (by omega)
  rw [e1,e2,e3,e4,if_neg (by omega)]
  show w64 (((c:Int) - 1 + 2 * ((i:Int) + 1) - 1).tdiv (2 * ((i:Int) + 1)))≤W
  have hd0:0≤(c:Int) - 1 + 2 * ((i:Int) + 1) - 1:=by omega
  rw [Int.tdiv_eq_ediv_of_nonneg hd0]
  have hlt:((c:Int) - 1 + 2 * ((i:Int) + 1) - 1) / (2 * ((i:Int) + 1)) < (W:Int) + 1:=by
   refine Int.ediv_lt_of_lt_mul (by omega) ?_
   have e:((W:Int) + 1) * (2 * ((i:Int) + 1))=2 * (((i + 1) * W:Nat):Int) + 2 * ((i:Int) + 1):=by
    push_cast
    rw [Int.add_mul,Int.one_mul,Int.mul_left_comm,Int.mul_comm (W:Int)]
   rw [e]
   omega
  have hge:0≤((c:Int) - 1 + 2 * ((i:Int) + 1) - 1) / (2 * ((i:Int) + 1)):=Int.ediv_nonneg hd0 (by omega)
  have hsm:((c:Int) - 1 + 2 * ((i:Int) + 1) - 1) / (2 * ((i:Int) + 1))≤(c:Int) - 1 + 2 * ((i:Int) + 1) - 1:=Int.ediv_le_self _ hd0
  rw [yF (by omega) (by omega)]
  omega
 show max s _≤(W:Int)
 omega
theorem zlb {W i:Nat} (hg:yA g=true) (ho:yV g.1 l=true) (hw:okB g W l=true):frS g l i≤(W:Int):=by
 have h8:=zC hg
 have hp:=LU hg ho
 unfold frS
 have:yy (frt g (xr l i)) g.1.toNat≤W:=JK (a:=i - W) hg ho fun j hj h=>by
  unfold frt at h
  rw [Bool.and_eq_true,wP] at h
  obtain ⟨h1,y,hy,h2⟩:=h
  rw [Bool.and_eq_true] at h2
  have h3:=(Je hp (JF ho hj)).1 h1
  have h4:¬ pos l y < i:=by
   intro hlt
   have:=(Je hp (JF ho hy)).2 hlt
   rw [this] at h2;cases h2.2
  have h5:=zbb ho hw hg h2.1
  omega
 omega
theorem zhT (hg:yA g=true) {S:Nat→Bool}:yy (frt g S) g.1.toNat≤Wl g S:=by
 rw [← Ja hg,uF]
 unfold zjl
 have:∀ n,uj (fun j=>if frt g S j then 1 else 0) n≤uj (fun y=>if S y then yy (fun j=>adj g y j && !S j) g.1.toNat else 0) n:=by
  intro n
  induction n with
  | zero=>exact Nat.le_refl _
  | succ n ih=>
    simp only [uj]
    have:(if frt g S n then 1 else 0)≤(if S n then yy (fun j=>adj g n j && !S j) g.1.toNat else 0):=by
     by_cases h:frt g S n=true
     · rw [if_pos h]
       unfold frt at h
       rw [Bool.and_eq_true,wP] at h
       rw [if_pos h.1]
       obtain ⟨y,hy,h2⟩:=h.2
       have:yy (fun j=>adj g n j && !S j) g.1.toNat≠0:=by
        intro e
        unfold yy at e
        rw [List.countP_eq_zero] at e
        exact e y (List.mem_range.2 hy) h2
       omega
     · rw [if_neg h];exact Nat.zero_le _
    omega
 exact this _
end
end Go.Zq
namespace Go.Zq
theorem KV {F:Nat} {xs:List Int} (hF:xs.length < F) (hs:Sm xs.length):Xn F xs xs=some true:=by
 unfold Xn
 rw [bne_self_eq_false,cond_false]
 rw [Yj (L:=fun k i=>ZS F xs xs k i) (n:=xs.length) (p:=fun _=>true) (bad:=some false) (fin:=some true) ?_ ?_ F hF]
 · have:vU (fun _=>true) xs.length=true:=yE.2 fun _ _=>rfl
   rw [this];rfl
 · intro k i hi
   simp only [ZS]
   rw [decide_eq_true (by omega),cond_true,zI (d:=0) hi,Option.bind_some,Option.bind_some,bne_self_eq_false,cond_false,cond_true,zN hi hs]
 · intro k
   simp only [ZS]
   rw [decide_eq_false (by omega),cond_false]
theorem zkX {xs:List Int}:mxL xs xs.length=Ux xs:=by
 rw [QW]
 have:∀ n,mxL xs n=(List.range n).foldl (fun s i=>max s (xs.getD i 0)) 0:=by
  intro n
  induction n with
  | zero=>rfl
  | succ n ih=>
    rw [List.range_succ,List.foldl_append,← ih]
    show (if xs.getD n 0 > mxL xs n then xs.getD n 0 else mxL xs n)=max (mxL xs n) (xs.getD n 0)
    split <;> omega
 exact this _
theorem zit {F:Nat} {xs:List Int} (hF:xs.length < F) (hs:Sm xs.length):Ub F xs=some (Ux xs):=by
 rw [← zkX]
 unfold Ub
 refine wh (L:=fun k t (s:Int)=>vH F xs k s t) (n:=xs.length) (fun t s=>s=mxL xs t) ?_ ?_ F 0 hF rfl
 · rintro k t s ht rfl
   simp only [vH]
   rw [decide_eq_true (by omega),cond_true,zI (d:=0) ht,Option.bind_some]
   refine ⟨mxL xs (t + 1),rfl,?_⟩
   unfold XP
   rw [zN ht hs]
   by_cases hm:xs.getD t 0 > mxL xs t
   · rw [decide_eq_true hm,cond_true,Option.bind_some]
     simp only [mxL,if_pos hm]
   · rw [decide_eq_false hm,cond_false]
     simp only [mxL,if_neg hm]
 · rintro k s rfl
   simp only [vH]
   rw [decide_eq_false (by omega),cond_false]
theorem zj2 {F:Nat} {rc rc'} {x2:Int} {o:NL Int} {w:S1 (List Int)} {x20:Int} {b:Bool} {i:Int} {c1:Int→Option (List Int×Bool)} {c1':Int→Option (NL Int×Bool)} {c4:Bool→Int→Option (List Int×Bool)} {c4':Bool→Int→Option (NL Int×Bool)}
    (hr:∀ a b (l:List Int),rc a b l=(rc' a b (On.mk (.of l))).map fun r=>(r.1.list,r.2)) (h1:∀ x,c1 x=(c1' x).map fun r=>(r.1.list,r.2)) (h4:∀ b x,c4 b x=(c4' b x).map fun r=>(r.1.list,r.2)) (t:Bool) :
    xE F rc x2 o.list w x20 b i c1 c4 t=(xT F rc' x2 (On.mk o) w x20 b i c1' c4' t).map fun r=>(r.1.list,r.2):=by
 simp only [xE,xT,Option.map_bind,vx,hr,h1,h4,Function.comp_def,Option.map_some,Option.bind_map]
theorem zfO {F:Nat} {rc rc'} {x2:Int} {o:NL Int} {w:S1 (List Int)} {x20:Int} {c1:Int→Option (List Int×Bool)} {c1':Int→Option (NL Int×Bool)}
    (hr:∀ a b (l:List Int),rc a b l=(rc' a b (On.mk (.of l))).map fun r=>(r.1.list,r.2)) (h1:∀ x,c1 x=(c1' x).map fun r=>(r.1.list,r.2)) :
    ∀ (k:Nat) (b:Bool) (i:Int),yH F rc x2 o.list w x20 c1 k b i=(yK F rc' x2 (On.mk o) w x20 c1' k b i).map fun r=>(r.1.list,r.2)
 | 0,_,_=>rfl
 | k + 1,b,i=>by
   simp only [yH,yK,vx,zj2 hr h1 (zfO hr h1 k)]
theorem znJ {α:Type}:(NL.nil:NL α).list=[]:=rfl
theorem zfg {F:Nat} {rc rc'} {x2:Int} {o:NL Int} {w:S1 (List Int)}
    (hr:∀ a b (l:List Int),rc a b l=(rc' a b (On.mk (.of l))).map fun r=>(r.1.list,r.2)) :
    ∀ (k:Nat) (i:Int),xl F rc x2 o.list w k i=(zX F rc' x2 (On.mk o) w k i).map fun r=>(r.1.list,r.2)
 | 0,_=>rfl
 | k + 1,i=>by
   simp only [xl,zX,Option.map_bind,vx,zfO hr (zfg hr k),Function.comp_def,Option.map_some,znJ]
theorem zfK {F:Nat}:∀ (k:Nat) (w:S1 (List Int)) (x:Int) (o:NL Int),y7 F k w x o.list=(zA F k w x (On.mk o)).map fun r=>(r.1.list,r.2)
 | 0,_,_,_=>rfl
 | k + 1,w,x,o=>by
   have hr:∀ a b (l:List Int),y7 F k a b l=(zA F k a b (On.mk (.of l))).map fun r=>(r.1.list,r.2):=fun a b l=>zfK k a b (.of l)
   simp only [y7,zA,vy,xx,Option.map_bind,vx,zfg hr,Function.comp_def,Option.map_some]
theorem zjj {F:Nat} {w:S1 (List Int)}:∀ (k:Nat) (x:Int),wq F w k x=(yW F w k x).map fun r=>S3.mk r.a.list r.b r.c
 | 0,_=>rfl
 | k + 1,x=>by
   have h:=zfK (F:=F) F w x .nil
   have h:ZU F w x []=(vD F w x (On.mk .nil)).map fun r=>(r.1.list,r.2):=h
   simp only [wq,yW,h,Option.map_bind,vx,zjj k,Function.comp_def,Option.map_some,Option.bind_map]
theorem Js {F:Nat} {g:Gr}:xU F g=(uD F g).map fun r=>S3.mk r.a.list r.b r.c:=by
 simp only [xU,uD,Option.map_bind,vx,zjj,Function.comp_def,Option.map_some,NL.list]
theorem zeZ {F:Nat} {b:List Int} {cl} {w:S1 (List Int)} {o:NL Int} {s:Int} {q:List Int} {c:NL Int→Int→Option (List Int)} {c':NL Int→Int→Option (NL Int)} (hc:∀ o s,c o s=(c' o s).map NL.list) :
    ∀ (k:Nat) (t:Int),yu F b cl w o s q c k t=(yb F b cl w o s q c' k t).map NL.list
 | 0,_=>rfl
 | k + 1,t=>by
   simp only [yu,yb,Option.map_bind,vx,zeZ hc k,hc,Function.comp_def]
theorem zfb {F:Nat} {b:List Int} {cl} {w:S1 (List Int)} :
    ∀ (k:Nat) (o:NL Int) (s:Int),yf F b cl w k o s=(z5 F b cl w k o s).map NL.list
 | 0,_,_=>rfl
 | k + 1,o,s=>by
   simp only [yf,z5,Option.map_bind,vx,zeZ (zfb k),Function.comp_def,Option.map_some]
theorem JN {F:Nat} {g:Gr}:xu F g=(Yp F g).map fun r=>S3.mk r.a.list r.b r.c:=by
 simp only [xu,Yp,yJ,wu,Option.map_bind,vx,zfb,Function.comp_def,Option.map_some,NL.list,Option.bind_map]
theorem zeY {F:Nat} {w:S1 (List Int)} {l:List Int}:∀ (k:Nat) (o:NL Int) (s t:Int),xJ F w l k o s t=(wb F w l k o s t).map NL.list
 | 0,_,_,_=>rfl
 | k + 1,o,s,t=>by
   simp only [xJ,wb,Option.map_bind,vx,zeY k,Function.comp_def,Option.map_some]
theorem zbE {F:Nat} {g:Gr} {l:List Int}:YY F g l=(Ug F g l).map fun r=>(r.1.list,r.2):=by
 simp only [YY,Ug,Y7,YP,wT,Yn,Option.map_bind,vx,zeY,Function.comp_def,Option.map_some,NL.list,Option.bind_map]
section
variable {g:Gr} {l:List Int}
theorem zop (hg:yA g=true) (ho:yV g.1 l=true) {t:Int} (h:∀ i,i < l.length→((Wl g (xr l (i + 1)):Nat):Int)≤t):Ch g.1.toNat (zai g) t 0 (2 ^ g.1.toNat - 1):=by
 have h8:=zC hg
 have key:∀ i,i≤l.length→Ch g.1.toNat (zai g) t 0 (mkm (xr l i) g.1.toNat):=by
  intro i
  induction i with
  | zero=>intro _;rw [Qp];exact .refl _
  | succ i ih=>
    intro hi
    obtain ⟨x,hx,hxn⟩:=zaZ hg ho (show i < l.length by omega)
    rw [Jk hg ho (by omega) hx hxn]
    refine QX (ih (by omega)) hxn ?_ ?_
    · rw [X4 hg ho];exact Jc ho h8.1 (by omega) hx
    · rw [← Jk hg ho (by omega) hx hxn]
      unfold zai
      rw [X4 hg ho];exact h i (by omega)
 have:=key l.length (Nat.le_refl _)
 rwa [N4 hg ho] at this
theorem zkw {n:Nat} {T:Nat→Int} {t:Int} {d m:Nat} (h:Grd n (fun m x=>decide (max (vk g m x) (T (m ||| 2 ^ x))≤t)) d m l):∀ b:List Int,bq b=m.testBit →
    bq (b++l)=(2 ^ n - 1).testBit∧∀ i,i < l.length→((Wl g (bq (b++l.take (i + 1))):Nat):Int)≤t:=by
 induction h with
 | done=>intro b hb;exact ⟨by rw [List.append_nil,hb],fun i hi=>by simp at hi⟩
 | step hm hf _ ih=>
   rename_i d m x l _
   intro b hb
   have hx:=wL hf
   have hbx:bq (b++[(x:Int)])=(m ||| 2 ^ x).testBit:=by
    funext j
    rw [Nat.testBit_or,Nat.testBit_two_pow,← hb]
    unfold bq
    rw [Bool.eq_iff_iff]
    have:((j:Int)=(x:Int))↔x=j:=by omega
    simp [this]
   obtain ⟨h1,h2⟩:=ih _ hbx
   rw [List.append_assoc] at h1
   refine ⟨h1,fun i hi=>?_⟩
   cases i with
   | zero=>
     have hp:max (vk g m x) (T (m ||| 2 ^ x))≤t:=by have:=hx.2.1;simp only [Bool.and_eq_true,decide_eq_true_eq] at this;exact this.2
     have:vk g m x≤t:=by omega
     unfold vk zai at this
     rw [← hbx] at this
     simpa using this
   | succ i=>
     have:=h2 i (by simpa using hi)
     rw [List.append_assoc] at this
     exact this
theorem KH {n i:Nat} (h:i < n):(vV g l n).getD i 0=((Wl g (xr l (i + 1)):Nat):Int):=by
 simp [vV,List.getD_eq_getElem?_getD,h]
theorem zf8 {F:Nat} (hg:yA g=true) (h9:300≤F) (hG:g.2.length < F) (hs:Sm g.2.length) :
    ∃ w l,xI F g=some (S3.mk l w true)∧xu F g=some (S3.mk l w true)∧yV g.1 l=true∧Ux (vV g l l.length)=w∧∀ l',yV g.1 l'=true→w≤Ux (vV g l' l'.length):=by
 have h8:=zC hg
 have hpow:=Nat.two_pow_pos g.1.toNat
 have hp256:=Wq (n:=g.1.toNat) (by omega)
 obtain ⟨out,o1,o2,o3⟩:=zhB hg h9 hG hs
 obtain ⟨best,b1,b2,b3⟩:=zh5 (F:=F) (nn:=0) hg h9
 have heq:out=best:=by
  refine List.ext_getElem (by omega) fun i h1 h2=>?_
  have:=zfU (by omega) o3 b3 i (by omega)
  rwa [List.getD_eq_getElem?_getD,List.getElem?_eq_getElem h1,Option.getD_some,List.getD_eq_getElem?_getD,List.getElem?_eq_getElem h2,Option.getD_some] at this
 subst heq
 obtain ⟨l,hl⟩:=znR (t:=out.getD 0 0) (by omega) o3 0 hpow (Int.le_refl _)
 rw [Nx] at hl
 obtain ⟨o,f1,f2⟩:=zf6 hg h9 o2 hl .nil F (by omega) (by show 0 + g.1.toNat≤100;omega)
 have hs2:=zkH hg h9 hG hs o2 hl [] F (by omega) (by simp)
 have hz:idx out 0=some (out.getD 0 0):=zI (xs:=out) (i:=0) (d:=0) (by omega)
 have hgd:=zkw (g:=g) (T:=fun m=>out.getD m 0) hl [] (by funext j;simp [bq])
 have f2':o.list=l:=f2
 have hgn:((g.1.toNat:Nat):Int)=g.1:=by omega
 have ho:yV g.1 l=true:=by
  have:=K9 (zfv hl) hgd.1
  rwa [hgn] at this
 have hT0:0≤out.getD 0 0:=by
  have h:=o3 0 hpow
  have h:out.getD 0 0=_:=h
  rw [h]
  by_cases he:yT g.1.toNat 0=[]
  · rw [he];exact Int.le_refl _
  · refine YI he fun y _=>?_
    have:=Lh (g:=g) (m:=0 ||| 2 ^ y.toNat)
    have:0≤vk g 0 y.toNat:=this
    show 0≤max (vk g 0 y.toNat) _
    omega
 have hlow:∀ l',yV g.1 l'=true→out.getD 0 0≤Ux (vV g l' l'.length):=by
  intro l' ho'
  have hm:=zd8 (l:=vV g l' l'.length)
  refine (LN (c:=zai g) (by omega) o3 hm.1 0 hpow).2 (zop hg ho' fun i hi=>?_)
  have:=hm.2 i (by rw [ue];exact hi)
  rwa [KH hi] at this
 have hupp:Ux (vV g l l.length)≤out.getD 0 0:=by
  refine zkS hT0 fun i hi=>?_
  rw [ue] at hi
  rw [KH hi]
  exact hgd.2 i hi
 refine ⟨out.getD 0 0,l,?_,?_,ho,Int.le_antisymm hupp (hlow l ho),hlow⟩
 · unfold xI
   rw [v7 hG hs,Option.bind_some,hg,Bool.not_true,cond_false,o1,Option.bind_some]
   exact hs2
 · rw [JN]
   unfold Yp
   rw [uH hG (by omega) hs,Option.bind_some,hg,Bool.not_true,cond_false,XD hg hG hs,Option.bind_some,b1,Option.bind_some]
   unfold wu
   have f1':z5 F out ⟨(⟨zW g⟩,()),()⟩ ⟨zW g⟩ F .nil 0=some o:=f1
   rw [f1',Option.bind_some,hz,Option.bind_some]
   show some (S3.mk o.list (out.getD 0 0) true)=_
   rw [f2']
theorem zgI {F:Nat} (hF:l.length < F) (hG:g.2.length < F) (h9:20≤F) (hl:Sm l.length) (hs:Sm g.2.length) :
    ∃ R,Yh F g l=some R∧YY F g l=some R∧R.1.length≤8∧(yA g=true→yV g.1 l=true→R.1=vV g l l.length):=by
 obtain ⟨R,b,o,h1,h2,h3,h4⟩:=zhC hF hG h9 hl hs
 refine ⟨(R,b),h1,?_,h4,fun hg ho=>?_⟩
 · rw [zbE,h2];show some (o.list,b)=_;rw [h3]
 · have h8:=zC hg
   have hlen:=wC ho
   unfold Yh vT at h1
   rw [v7 hG hs,Option.bind_some,hg,cond_true,Jh h8.1 h8.2 hF (by omega) hl,ho,Option.bind_some,Option.bind_some,Bool.not_true,cond_false,Mz hg hF hG (by omega) hs,Option.bind_some] at h1
   exact (Prod.mk.inj (Option.some.inj h1)).1.symm
end
theorem M0 {F:Nat} {code:LB} (hF:2097152≤F) (hc:∀ y∈code,0≤y.v∧y.v≤255):vc F code=some true:=by
 unfold vc KX
 rw [Option.bind_some]
 cases decide ((code.length:Int) > 65536) with
 | true=>rfl
 | false=>
   rw [cond_false]
   obtain ⟨g,c,e,hg,hck⟩:=zfS (F:=F) (by omega) hc
   obtain ⟨l,c',e2,h3,_⟩:=zf1 (F:=F) (g:=g) (by omega) (min g.1 8).toNat 0 F c.a c.b c.c.v [] (by omega) (by omega) (hck.le (by omega)) rfl
   have e3:wa F code=some (g,l):=by
    unfold wa
    rw [e,Option.bind_some]
    have e2':ui F (Cu.mk (g,c).2) (g,c).1=some (l,c'):=e2
    rw [e2'];rfl
   have hs:Sm g.2.length:=by unfold Sm;omega
   have hG:g.2.length < F:=by omega
   have hl:Sm l.length:=by unfold Sm;omega
   have hlF:l.length < F:=by omega
   rw [e3,Option.bind_some]
   have a1:=Ut (F:=F) (g:=g) (l:=l) hlF hG (by omega) hl hs
   have a2:=Lw (F:=F) (g:=g) (l:=l) hlF hG (by omega) hl hs
   obtain ⟨R,k1,k2,k3,k4⟩:=zgI (F:=F) (g:=g) (l:=l) hlF hG (by omega) hl hs
   have d1:=zbU (F:=F) (g:=g) (l:=l) hlF hG (by omega) hl hs
   have d2:=zjq (F:=F) (g:=g) (l:=l) hlF hG (by omega) hl hs
   obtain ⟨B,w,b,o,m1,m2,m3,m4,m5⟩:=zag (F:=F) (g:=g) (by omega) hG hs
   have m2':xU F g=some (S3.mk B w b):=by rw [Js,m2];show some (S3.mk o.list w b)=_;rw [m3]
   have q1:=zga (F:=F) (g:=g) hG (by omega) hs
   have q2:=zgh (F:=F) (g:=g) hG (by omega) hs
   have hcut:∃ C v cb,xI F g=some (S3.mk C v cb)∧xu F g=some (S3.mk C v cb)∧C.length≤8∧(yA g=true→yV g.1 C=true∧Ux (vV g C C.length)=v∧∀ l',yV g.1 l'=true→v≤Ux (vV g l' l'.length)):=by
    cases hgd:yA g with
    | false=>exact ⟨[],0,false,by unfold xI;rw [v7 hG hs,hgd];rfl,by unfold xu;rw [uH hG (by omega) hs,hgd];rfl,by simp,fun h=>by cases h⟩
    | true=>
      obtain ⟨v,C,h1,h2,h3,h4,h5⟩:=zf8 (F:=F) hgd (by omega) hG hs
      have:=wC h3
      have:=zC hgd
      exact ⟨C,v,true,h1,h2,by omega,fun _=>⟨h3,h4,h5⟩⟩
   obtain ⟨C,v,cb,u1,u2,u3,u4⟩:=hcut
   rw [a1,Option.bind_some,a2,Option.bind_some,k2,Option.bind_some,k1,Option.bind_some,d1,Option.bind_some,d2,Option.bind_some,m2',Option.bind_some,m1,Option.bind_some,u2,Option.bind_some,u1,Option.bind_some,q1,Option.bind_some,q2,Option.bind_some]
   simp only [bne_self_eq_false,cond_false]
   rw [KV (by omega) (by unfold Sm;omega),Option.bind_some,Bool.not_true,cond_false,KV (by omega) (by unfold Sm;omega),Option.bind_some,Bool.not_true,cond_false,KV (by omega) (by unfold Sm;omega),Option.bind_some,Bool.not_true,cond_false]
   unfold yc
   rw [cond_false]
   cases hgd:yA g with
   | false=>
     have hb:b=false:=by
      unfold xR at m1
      rw [v7 hG hs,Option.bind_some,hgd] at m1
      have:=Option.some.inj m1
      injection this with _ _ h
      exact h.symm
     subst hb;rfl
   | true=>
     have h8:=zC hgd
     obtain ⟨hb,W,hw,hpre,hok,hmin⟩:=m5 hgd
     subst hb;subst hw
     obtain ⟨hoB,hbB,hlowB⟩:=zdi hgd hpre hok hmin
     obtain ⟨hoC,hvC,hlowC⟩:=u4 hgd
     obtain ⟨pw,lb,p0,p2,p1,_,_,_,_,pch⟩:=zdJ (F:=F) hgd (by omega) hG hs
     have hlenB:=wC hoB
     have hlenC:=wC hoC
     have b1:=Ut (F:=F) (g:=g) (l:=B) (by omega) hG (by omega) (by unfold Sm;omega) hs
     have b2:=zbU (F:=F) (g:=g) (l:=C) (by omega) hG (by omega) (by unfold Sm;omega) hs
     rw [hgd,hoB,Bool.true_and,cond_true,hbB] at b1
     rw [hgd,hoC,Bool.true_and,cond_true,hvC] at b2
     have hbd:=zmo hgd hoB hok
     have hpB:pw≤(W:Int):=(pch W (by omega)).2 (zi1 hgd hoB fun i _=>zlb hgd hoB hok)
     have hmC:=zd8 (l:=vV g C C.length)
     have hpC:pw≤v:=by
      rw [← hvC]
      refine (pch _ hmC.1).2 (zi1 hgd hoC fun i hi=>?_)
      have h1:=hmC.2 i (by rw [ue];exact hi)
      rw [KH hi] at h1
      have h2:=zhT hgd (S:=xr C (i + 1))
      unfold frS
      omega
     have fin:y6 F (g,l) (S3.mk B (W:Int) true) (S3.mk C v cb) (pw,true) false=some true:=by
      unfold y6
      rw [cond_false,Bool.not_true,cond_false]
      cases (g,l).1.1 == 0 with
      | true=>rfl
      | false=>
        rw [cond_false,decide_eq_true (show (pw,true).1≤(S3.mk B (W:Int) true).b from hpB),cond_true,decide_eq_true (show (pw,true).1≤(S3.mk C v cb).b from hpC)]
     rw [Bool.not_true,cond_false]
     show (wF F g B).bind _=_
     rw [b1,Option.bind_some]
     show (wV F g C).bind _=_
     rw [b2,Option.bind_some]
     show (w5 F g).bind _=_
     rw [p1,Option.bind_some,bne_self_eq_false,cond_false,bne_self_eq_false,cond_false,cond_true]
     rw [decide_eq_false (show ¬ (Ns g,true).1 > (S3.mk B (W:Int) true).b by show ¬ Ns g > (W:Int);omega),cond_false,Bool.true_and]
     cases ho:yV g.1 l with
     | false=>exact fin
     | true=>
       have h1:=hlowB l ho
       have h2:=hlowC l ho
       rw [cond_true,cond_true,cond_true]
       rw [decide_eq_false (show ¬ (Xg l g.2,true).1 < (S3.mk B (W:Int) true).b by show ¬ Xg l g.2 < (W:Int);omega),cond_false]
       rw [decide_eq_false (show ¬ (Ux (vV g l l.length),true).1 < (S3.mk C v cb).b by show ¬ Ux (vV g l l.length) < v;omega),cond_false]
       rw [zit (by omega) (by unfold Sm;omega),Option.bind_some,k4 hgd ho,bne_self_eq_false]
       exact fin
end Go.Zq
