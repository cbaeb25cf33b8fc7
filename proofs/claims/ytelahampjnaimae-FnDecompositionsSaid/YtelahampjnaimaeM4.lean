/- Plain mathematics (part 4). Conditions: stated in each theorem. -/
import Derived.Test.YtelahampjnaimaeM3
import Derived.Test.YtelahampjnaimaeM2
import Derived.Test.YtelahampjnaimaeM1
set_option linter.unusedVariables false
set_option linter.unusedSimpArgs false
namespace Go.Zq
def cod (s:Nat×Nat):Nat:=s.1 + 256 * s.2
theorem KP {l:List Nat} {N:Nat} (hn:l.Nodup) (h:∀ x∈l,x < N):l.length≤N:=by
 have:=LZ N (l.map fun x:Nat=>(x:Int)) (by
  rw [List.nodup_iff_pairwise_ne] at hn ⊢
  rw [List.pairwise_map]
  exact hn.imp fun h=>by omega) (by
  intro x hx
  obtain ⟨y,hy,rfl⟩:=yX.1 hx
  have:=h y hy
  omega)
 have h2:=ur (p:=fun j=>decide ((j:Int)∈l.map fun x:Nat=>(x:Int))) (n:=N)
 rw [this,uz] at h2
 exact h2
structure Bfs (g:Gr) (k:Int) (T:List (Nat×Nat)) (P:List (NL Int)) (sn:List Bool):Prop where
 fst:T[0]?=some (0,2 ^ g.1.toNat - 1)
 rch:∀ s∈T,Rch g k s
 pln:P.length=T.length
 prg:∀ i,i < P.length→(P.getD i .nil).list.length≤i
 sln:sn.length=65536
 see:∀ c,c < 65536→(sn.getD c false=true↔∃ s∈T.tail,cod s=c)
 nod:(T.tail.map cod).Nodup
theorem Bfs.len {g:Gr} {k:Int} {T:List (Nat×Nat)} {P:List (NL Int)} {sn:List Bool} (hg:y0 g=true) (h6:g.1≤6) (hk:0≤k) (h:Bfs g k T P sn):T.length≤16385:=by
 have:=KP (N:=16384) h.nod (by
  intro c hc
  obtain ⟨s,hs,rfl⟩:=yX.1 hc
  have hst:=zfa hg hk (h.rch s (List.mem_of_mem_tail hs))
  have hp:=vG (n:=2) (by decide) (show g.1.toNat≤6 by omega)
  have h1:=hst.lt1
  have h2:=hst.lt2
  unfold cod
  omega)
 rw [uz,List.length_tail] at this
 omega
theorem znk {g:Gr} (h6:g.1≤6) {k:Int} {s:Nat×Nat} (h:Gst g k s):cod s < 65536∧s.1 < 64∧s.2 < 64:=by
 have hp:=vG (n:=2) (by decide) (show g.1.toNat≤6 by omega)
 have h1:=h.lt1
 have h2:=h.lt2
 unfold cod
 omega
theorem Bfs.add {g:Gr} {k:Int} {T:List (Nat×Nat)} {P:List (NL Int)} {sn:List Bool} (hg:y0 g=true) (h6:g.1≤6) (hk:0≤k) (h:Bfs g k T P sn) {i:Nat} {step:Int} (hi:i < T.length) (hc:cnS g k (T.getD i (0,0)) step=true)
    (hn:sn.getD (cod (nxS g (T.getD i (0,0)) step)) false=false) :
    Bfs g k (T++[nxS g (T.getD i (0,0)) step]) (P++[.of ((P.getD i .nil).list++[step])]) (sn.set (cod (nxS g (T.getD i (0,0)) step)) true):=by
 have hr:Rch g k (nxS g (T.getD i (0,0)) step):=.step (h.rch _ (vS hi)) hc
 have hst:=zfa hg hk hr
 have hl:=(znk h6 hst).1
 generalize hs:nxS g (T.getD i (0,0)) step=s' at hr hst hl hn ⊢
 have hne:T≠[]:=fun e=>by subst e;simp at hi
 have htl:(T++[s']).tail=T.tail++[s']:=by
  cases T with
  | nil=>exact absurd rfl hne
  | cons a T=>rfl
 have hpl:=h.pln
 refine ⟨?_,?_,?_,?_,?_,?_,?_⟩
 · rw [W3 (by omega)];exact h.fst
 · intro s hs
   rw [zO,xo] at hs
   rcases hs with hs | rfl
   · exact h.rch s hs
   · exact hr
 · simp [hpl]
 · intro j hj
   rw [uc,List.length_singleton] at hj
   by_cases e:j < P.length
   · rw [zU,W3 e,← zU];exact h.prg j e
   · obtain rfl:j=P.length:=by omega
     rw [zU,List.getElem?_append_right (by omega)]
     have:=h.prg i (by omega)
     simp only [Nat.sub_self,List.getElem?_cons_zero,y3]
     show ((P.getD i .nil).list++[step]).length≤P.length
     rw [uc,List.length_singleton]
     omega
 · rw [XF];exact h.sln
 · intro c hc2
   rw [htl,zU,List.getElem?_set]
   have hsl:=h.sln
   constructor
   · intro h5
     split at h5
     · rename_i e
       exact ⟨s',by simp,e⟩
     · rw [← zU] at h5
       obtain ⟨t,h1,h2⟩:=(h.see c hc2).1 h5
       exact ⟨t,by simp [h1],h2⟩
   · rintro ⟨t,h1,h2⟩
     rw [zO,xo] at h1
     split
     · rename_i e
       rw [if_pos (by omega)];rfl
     · rename_i e
       rw [← zU]
       rcases h1 with h1 | rfl
       · exact (h.see c hc2).2 ⟨t,h1,h2⟩
       · exact absurd h2 e
 · rw [htl,List.map_append,List.nodup_append]
   refine ⟨h.nod,by simp,?_⟩
   intro a ha b hb e
   simp only [List.map_cons,List.map_nil,xo] at hb
   subst e
   obtain ⟨t,h1,h2⟩:=yX.1 ha
   have:=(h.see (cod s') hl).2 ⟨t,h1,by rw [h2,hb]⟩
   rw [hn] at this;cases this
theorem L7 {p:Nat→Bool} {n:Nat}:(yn p n).length=0↔∀ j,j < n→p j=false:=by
 rw [xL]
 unfold xC
 rw [List.countP_eq_zero]
 constructor
 · intro h j hj
   have:=h j (by simpa using hj)
   simpa using this
 · intro h j hj
   rw [h j (by simpa using hj)];simp
def qD (g:Gr) (l:List Int) (i:Nat):Nat→Bool:=Zi g (uX l g.1.toNat i) (l.getD i 0).toNat
def bgD (g:Gr) (l:List Int) (i:Nat):List Int:=yn (fun j=>qD g l i j || j == (l.getD i 0).toNat) g.1.toNat
def nxD (g:Gr) (l:List Int) (i:Nat):Nat:=match ZZ (fun k=>qD g l i (l.getD k 0).toNat) l.length with
 | none=>i + 1
 | some k=>k
def Uz (g:Gr) (l:List Int) (i:Nat):List (List Int):=(List.range i).map (bgD g l)
def Jn (g:Gr) (l:List Int) (i:Nat):List (Int×Int):=(List.range i).map fun t:Nat=>((t:Int),(nxD g l t:Int))
theorem Lx {g:Gr} {l:List Int} {i:Nat}:Uz g l (i + 1)=Uz g l i++[bgD g l i]:=by simp [Uz,ZH]
theorem Ql {g:Gr} {l:List Int} {i:Nat}:Jn g l (i + 1)=Jn g l i++[((i:Int),(nxD g l i:Int))]:=by simp [Jn,ZH]
theorem Yw {g:Gr} {l:List Int} {i:Nat}:(Uz g l i).length=i:=by simp [Uz]
theorem WT {g:Gr} {l:List Int} {i:Nat}:(Jn g l i).length=i:=by simp [Jn]
section
variable {g:Gr} {l:List Int}
theorem YX (hg:y0 g=true) (ho:wV g.1 l=true) {i:Nat} (hi:i < l.length):∃ x:Nat,l.getD i 0=(x:Int)∧x < g.1.toNat:=by
 have h8:=yE hg
 have hr:=JP ho h8.1 _ (vS (d:=0) hi)
 exact ⟨(l.getD i 0).toNat,by omega,by omega⟩
theorem ML (hg:y0 g=true) (ho:wV g.1 l=true) {b:Nat} (hb:b < g.1.toNat):∃ t,t < l.length∧l.getD t 0=(b:Int):=by
 have:=LX ho (x:=(b:Int)) (by omega) (by omega)
 obtain ⟨t,ht,he⟩:=Zk.1 this
 exact ⟨t,ht,by rw [zU,yW ht];exact he⟩
theorem L2 (hg:y0 g=true) (ho:wV g.1 l=true) {i k:Nat} (hi:i < l.length) (hk:k≤i):qD g l i (l.getD k 0).toNat=false:=by
 cases e:qD g l i (l.getD k 0).toNat with
 | false=>rfl
 | true=>
   obtain ⟨y,hy,hyn⟩:=YX hg ho (show k < l.length by omega)
   unfold qD at e
   obtain ⟨h1,h2⟩:=Ll e
   rw [hy,z8] at h1 h2
   by_cases e2:k=i
   · subst e2;rw [hy,z8] at h2;exact absurd rfl h2
   · rw [ZR hyn,K2 (show k < i by omega) (by omega) hy] at h1;cases h1
theorem UW (hg:y0 g=true) (ho:wV g.1 l=true) {i k:Nat} (hi:i < l.length) (h:ZZ (fun k=>qD g l i (l.getD k 0).toNat) l.length=some k):i < k∧k < l.length∧qD g l i (l.getD k 0).toNat=true∧(∀ j,j < k→qD g l i (l.getD j 0).toNat=false)∧nxD g l i=k:=by
 obtain ⟨h1,h2,h3⟩:=Z9 h
 refine ⟨?_,h1,h2,h3,by unfold nxD;rw [h]⟩
 refine ZA fun hne=>?_
 have h2':qD g l i (l.getD k 0).toNat=true:=h2
 rw [L2 hg ho hi (show k≤i by omega)] at h2'
 cases h2'
theorem J9 (hg:y0 g=true) (ho:wV g.1 l=true) {i:Nat} (h:ZZ (fun k=>qD g l i (l.getD k 0).toNat) l.length=none):(yn (qD g l i) g.1.toNat).length=0∧nxD g l i=i + 1:=by
 refine ⟨L7.2 fun j hj=>?_,by unfold nxD;rw [h]⟩
 obtain ⟨t,ht,he⟩:=ML hg ho hj
 have:=vv.1 h t ht
 simp only [he,z8] at this
 exact this
theorem zlb {F i:Nat} {ap:List (List Int)} {x32:List (Int×Int)} {c:List (List Int)→List (Int×Int)→Int→Option (List (List Int)×List (Int×Int))} (hg:y0 g=true) (ho:wV g.1 l=true) (hF:300≤F) (hi:i < l.length) (hx:x32.length≤1000) :
    wi F l g ap x32 (i:Int) (yn (qD g l i) g.1.toNat) c F (w64 ((i:Int) + 1))=if i + 1 < l.length then c ap (x32++[((i:Int),(nxD g l i:Int))]) (w64 ((i:Int) + 1)) else c ap x32 (w64 ((i:Int) + 1)):=by
 have h8:=yE hg
 have hlen:=ve ho
 have hw:w64 ((i:Int) + 1)=((i + 1:Nat):Int):=yw hi (by unfold Sm;omega)
 by_cases hl:i + 1 < l.length
 · rw [if_pos hl]
   have hk:i < nxD g l i∧nxD g l i < l.length:=by
    cases h:ZZ (fun k=>qD g l i (l.getD k 0).toNat) l.length with
    | none=>rw [(J9 hg ho h).2];omega
    | some k=>obtain ⟨h1,h2,_,_,h5⟩:=UW hg ho hi h;rw [h5];omega
   have hloop:=MF (L:=fun k' t=>wi F l g ap x32 (i:Int) (yn (qD g l i) g.1.toNat) c k' (((i + 1:Nat):Int) + t)) (n:=nxD g l i - (i + 1)) (r:=c ap (x32++[((i:Int),(nxD g l i:Int))]) (w64 ((i:Int) + 1))) (by
       intro k' t ht
       have hm:i + 1 + t < l.length:=by omega
       obtain ⟨y,hy,hyn⟩:=YX hg ho hm
       have hq:qD g l i y=false∧(((yn (qD g l i) g.1.toNat).length:Int) == 0)=false:=by
        cases h:ZZ (fun k=>qD g l i (l.getD k 0).toNat) l.length with
        | none=>have:=(J9 hg ho h).2;omega
        | some k=>
          obtain ⟨h1,h2,h3,h4,h5⟩:=UW hg ho hi h
          have h6:=h4 (i + 1 + t) (by omega)
          rw [hy,z8] at h6
          refine ⟨h6,wv.2 fun e=>?_⟩
          obtain ⟨z,hz,hzn⟩:=YX hg ho h2
          have:=L7.1 (show (yn (qD g l i) g.1.toNat).length=0 by omega) z hzn
          rw [hz,z8,this] at h3;cases h3
       simp only [wi,Yb]
       rw [show ((i + 1:Nat):Int) + (t:Int)=((i + 1 + t:Nat):Int) by omega,show ((i + 1:Nat):Int) + ((t + 1:Nat):Int)=((i + 1 + t + 1:Nat):Int) by omega,zw (show ((i + 1 + t:Nat):Int) < (l.length:Int) by omega),zq,z9 (d:=0) hm,ze,hy,Kj (by omega) hyn (by omega),ze,hq.1,zo,hq.2,zo,yw hm (by unfold Sm;omega)]) (by
       intro k'
       have hm:=hk.2
       obtain ⟨y,hy,hyn⟩:=YX hg ho hm
       simp only [wi,Yb]
       rw [show ((i + 1:Nat):Int) + ((nxD g l i - (i + 1):Nat):Int)=((nxD g l i:Nat):Int) by omega,zw (show ((nxD g l i:Nat):Int) < (l.length:Int) by omega),zq,z9 (d:=0) hm,ze,hy,Kj (by omega) hyn (by omega),ze,zq,ub (by simp;omega),ze]
       cases h:ZZ (fun k=>qD g l i (l.getD k 0).toNat) l.length with
       | none=>
         have h0:=(J9 hg ho h).1
         have e:(((yn (qD g l i) g.1.toNat).length:Int) == 0)=true:=by rw [h0];rfl
         rw [e,zq]
         cases qD g l i y <;> rfl
       | some k=>
         obtain ⟨_,_,h3,_,h5⟩:=UW hg ho hi h
         rw [← h5,hy,z8] at h3
         rw [h3,zq]) F (by omega)
   simp only [Int.add_zero,hw] at hloop
   rw [hw];exact hloop
 · rw [zy hl,hw]
   obtain ⟨f,hf⟩:∃ f,F=f + 1:=⟨F - 1,by omega⟩
   have:∀ k,wi F l g ap x32 (i:Int) (yn (qD g l i) g.1.toNat) c (k + 1) ((i + 1:Nat):Int)=c ap x32 ((i + 1:Nat):Int):=by
    intro k
    simp only [wi]
    rw [zI (show ¬ ((i + 1:Nat):Int) < (l.length:Int) by omega),zo,hw]
   have h2:=this f
   rwa [← hf] at h2
end
theorem zgp {F:Nat} {s:Int}:Xp F s=(KA F s).map NL.list:=Jy F .nil 0
section
variable {g:Gr} {l:List Int}
end
theorem Mx {F:Nat} {g:Gr} {nn:Int} (hg:y0 g=true) (hF:300≤F) :
    ∃ best:List Int,yK F ⟨wM g⟩ nn ⟨(⟨wM g⟩,()),()⟩=some best∧best.length=2 ^ g.1.toNat∧Lw g.1.toNat (elC g) nn (fun m=>best.getD m 0):=by
 have h8:=yE hg
 obtain ⟨n,hn⟩:∃ n:Nat,g.1.toNat=n:=⟨_,rfl⟩
 have hn8:n≤8:=by omega
 have hpow:=Zg n
 have hp256:2 ^ n≤256:=by
  have:=vG (n:=2) (by decide) hn8
  simpa using this
 have hall:vn F ⟨wM g⟩=some ((2 ^ n - 1:Nat):Int):=by
  unfold vn
  rw [ZI,hn,um (by omega),ze,vP (by omega) (by omega)]
  congr 1;omega
 have hw:w64 (((2 ^ n - 1:Nat):Int) + 1)=((2 ^ n:Nat):Int):=by rw [vP (by omega) (by omega)];omega
 unfold yK
 rw [hall,ze,hw,zbs (by omega),ze,ze,hn]
 have key:∀ d k (best:List Int),d≤2 ^ n→d < k→best.length=2 ^ n →
     (∀ j,d≤j→j < 2 ^ n→best.getD j 0=mn (fun x=>max (elC g j x.toNat) (best.getD (j ||| 2 ^ x.toNat) 0)) (Wu n j) nn) →
     ∃ b,zS F nn ⟨(⟨wM g⟩,()),()⟩ ⟨wM g⟩ k best ((d:Int) - 1)=some b∧b.length=2 ^ n∧Lw n (elC g) nn (fun m=>b.getD m 0):=by
  intro d
  induction d with
  | zero=>
    intro k best _ hk hlen hrec
    obtain ⟨k,rfl⟩:∃ k',k=k' + 1:=⟨k - 1,by omega⟩
    refine ⟨best,?_,hlen,fun m hm=>hrec m (by omega) hm⟩
    simp only [zS]
    rw [zI (by omega),zo]
  | succ d ih=>
    intro k best hd hk hlen hrec
    obtain ⟨k,rfl⟩:∃ k',k=k' + 1:=⟨k - 1,by omega⟩
    have hdn:d < 2 ^ n:=by omega
    have e0:((d + 1:Nat):Int) - 1=(d:Int):=by omega
    have hmk:yx .i64 ((2 ^ n - 1:Nat):Int) (d:Int)=((mkm (fun x=>!d.testBit x) n:Nat):Int):=by
     obtain ⟨c,hc,_,hb⟩:=Zn (a:=2 ^ n - 1) (b:=d) (by omega) (by omega)
     rw [hc]
     congr 1
     refine vT fun j=>?_
     rw [hb,Nat.testBit_two_pow_sub_one]
    have hl8:(Wu n d).length≤8:=by unfold Wu;rw [xL];exact Zf ur hn8
    simp only [zS]
    rw [e0,zw (by omega),zq,z9 (d:=0) (by omega),ze,hall,ze,hmk,NH hn8 (by omega),ze,z8]
    obtain ⟨s,hs,he⟩:=Ui (L:=fun k2 t s=>zY F nn ⟨(⟨wM g⟩,()),()⟩ ⟨wM g⟩ (d:Int) (Wu n d) (zS F nn ⟨(⟨wM g⟩,()),()⟩ ⟨wM g⟩ k) k2 s t) (n:=(Wu n d).length)
     (fun t s=>s=best.set d (mn (fun x=>max (elC g d x.toNat) (best.getD (d ||| 2 ^ x.toNat) 0)) ((Wu n d).take t) nn)) (fin:=fun s=>zS F nn ⟨(⟨wM g⟩,()),()⟩ ⟨wM g⟩ k s ((d:Int) - 1)) (by
       intro k2 t s ht hI
       subst hI
       refine ⟨_,rfl,?_⟩
       obtain ⟨x,hx,hxn,hxb⟩:=JY.1 (vS (d:=0) ht)
       have hgt:=zft d (by omega) x (by omega) hxb
       have hxp:=Zg x
       have hor:=zmk hdn hxn
       have hcost:=zlN (F:=F) (m:=d) (x:=x) hg (by omega) (by rw [hn];exact hdn) (by rw [hn];exact hxn)
       have htake:(Wu n d).take (t + 1)=(Wu n d).take t++[(x:Int)]:=by
        rw [List.take_add_one,yW ht]
        rw [zU,yW ht,y3] at hx
        rw [hx];rfl
       have hget:∀ a:Int,(best.set d a).getD (d ||| 2 ^ x) 0=best.getD (d ||| 2 ^ x) 0:=by
        intro a
        rw [zU,List.getElem?_set_ne (by omega),← zU]
       have hgetd:∀ a:Int,(best.set d a).getD d 0=a:=by
        intro a
        rw [zU,List.getElem?_set_self (by omega),y3]
       simp only [zY,xb,xa]
       rw [zw (show (t:Int) < ((Wu n d).length:Int) by omega),zq,z9 (d:=0) ht,ze,hx]
       rw [hcost,ze,um (by omega),ze,Wv (by omega) (Yt (by omega)),z9 (d:=0) (by rw [XF];omega),ze,hget,z9 (d:=0) (by rw [XF];omega),ze,ze,hgetd,z8,List.set_set,yw ht (by unfold Sm;omega),htake,zeh]
       have hmax:(if best.getD (d ||| 2 ^ x) 0 > elC g d x then best.getD (d ||| 2 ^ x) 0 else elC g d x)=max (elC g d x) (best.getD (d ||| 2 ^ x) 0):=by
        by_cases h:best.getD (d ||| 2 ^ x) 0 > elC g d x
        · rw [if_pos h,Int.max_eq_right (by omega)]
        · rw [zy h,Int.max_eq_left (by omega)]
       rw [hmax,z8]
       by_cases ht0:t=0
       · subst ht0
         rw [if_pos (.inl (by simp))]
         rfl
       · have hne:(Wu n d).take t≠[]:=by
          intro e
          have:=congrArg List.length e
          rw [List.length_take] at this
          simp only [List.length_nil] at this
          omega
         have hb:((t:Int) == 0)=false:=by rw [wv];omega
         rw [hb,zo]
         by_cases hlt:max (elC g d x) (best.getD (d ||| 2 ^ x) 0) < mn (fun x=>max (elC g d x.toNat) (best.getD (d ||| 2 ^ x.toNat) 0)) ((Wu n d).take t) nn
         · rw [zw hlt,zq,if_pos (.inr hlt)]
         · rw [zI hlt,zo,zy (fun h=>h.elim hne hlt)]) (by
       intro k2 s hI
       simp only [zY]
       rw [zI (show ¬ ((Wu n d).length:Int) < ((Wu n d).length:Int) by omega),zo,vP (by omega) (by omega)]) F (best.set d nn) (by omega) rfl
    have he':zY F nn ⟨(⟨wM g⟩,()),()⟩ ⟨wM g⟩ (d:Int) (Wu n d) (zS F nn ⟨(⟨wM g⟩,()),()⟩ ⟨wM g⟩ k) F (best.set d nn) 0=zS F nn ⟨(⟨wM g⟩,()),()⟩ ⟨wM g⟩ k s ((d:Int) - 1):=he
    rw [List.take_length] at hs
    rw [show yn (fun x=>!d.testBit x) n=Wu n d from rfl,he']
    refine ih k s (by omega) (by omega) (by rw [hs,XF];exact hlen) ?_
    have hsd:s.getD d 0=mn (fun x=>max (elC g d x.toNat) (best.getD (d ||| 2 ^ x.toNat) 0)) (Wu n d) nn:=by
     rw [hs,zU,List.getElem?_set_self (by omega),y3]
    have hsne:∀ j,j≠d→s.getD j 0=best.getD j 0:=by
     intro j hj
     rw [hs,zU,List.getElem?_set_ne (by omega),← zU]
    intro j h1 h2
    have hcg:mn (fun x=>max (elC g j x.toNat) (best.getD (j ||| 2 ^ x.toNat) 0)) (Wu n j) nn=mn (fun x=>max (elC g j x.toNat) (s.getD (j ||| 2 ^ x.toNat) 0)) (Wu n j) nn:=by
     refine ziL fun y hy=>?_
     obtain ⟨x,rfl,hxn,hxb⟩:=JY.1 hy
     have hgt:=zft j (by omega) x (by omega) hxb
     have hxp:=Zg x
     rw [z8,hsne _ (by omega)]
    by_cases e:j=d
    · subst e;rw [hsd,hcg]
    · rw [hsne j e,hrec j (by omega) h2,hcg]
 have e1:((2 ^ n - 1:Nat):Int)=((2 ^ n:Nat):Int) - 1:=by omega
 rw [e1]
 exact key (2 ^ n) F _ (by omega) (by omega) (by simp) (fun j h1 h2=>absurd h2 (by omega))
section
variable {g:Gr} {l:List Int}
end
def Jc (b:List (List Int)) (k:Nat):Int:=(List.range k).foldl (fun s i=>max s ((b.getD i []).length:Int)) 0
theorem WC {b:List (List Int)} {k:Nat}:Jc b (k + 1)=max (Jc b k) ((b.getD k []).length:Int):=by simp [Jc,ZH]
theorem zgs {F:Nat} {g:Gr} {d:DC} (hd:Dg F d) (hG:g.2.length < F) (hs:Sm g.2.length):xV F g d=some (bif y0 g && dcB g d then (w64 (Jc d.1 d.1.length - 1),true) else (0,false)):=by
 have hf:=hd.bg.fuel
 have hl:=hd.bg.len
 unfold xV wQ
 rw [Kp hG hs,ze]
 cases hg:y0 g with
 | false=>rfl
 | true=>
   rw [yS,zo,zh6 hg hd hG hs,ze,z6]
   cases dcB g d with
   | false=>rfl
   | true=>
     rw [yS,zo,zq]
     refine ZD (L:=fun k i s=>xJ F d k s i) (n:=d.1.length) (fun i s=>s=Jc d.1 i) ?_ ?_ F _ (by omega) rfl
     · intro k i s hi hI
       subst hI
       refine ⟨_,rfl,?_⟩
       simp only [xJ]
       rw [zw (show (i:Int) < (d.1.length:Int) by omega),zq,z9 (d:=[]) hi,ze,zfW,ze,WC,yw hi (by unfold Sm;omega)]
     · intro k s hI
       subst hI
       simp only [xJ]
       rw [zI (show ¬ (d.1.length:Int) < (d.1.length:Int) by omega),zo]
theorem Qg {F:Nat} {g:Gr} {d:DC} (hd:Dg F d) (hG:g.2.length < F) (hs:Sm g.2.length):xt F g d=some (bif y0 g && dcB g d then (w64 (Jc d.1 d.1.length - 1),true) else (0,false)):=by
 have hf:=hd.bg.fuel
 have hl:=hd.bg.len
 unfold xt wU
 rw [YU hG (by omega) hs,ze]
 cases hg:y0 g with
 | false=>rfl
 | true=>
   rw [yS,zo,zjV hg hd hG hs,ze,z6]
   cases dcB g d with
   | false=>rfl
   | true=>
     rw [yS,zo,zq]
     refine ZD (L:=fun k i s=>xM F d k s i) (n:=d.1.length) (fun i s=>s=Jc d.1 i) ?_ ?_ F _ (by omega) rfl
     · intro k i s hi hI
       subst hI
       refine ⟨_,rfl,?_⟩
       simp only [xM]
       rw [zw (show (i:Int) < (d.1.length:Int) by omega),zq,z9 (d:=[]) hi,ze,WC,yw hi (by unfold Sm;omega)]
       congr 1
       by_cases h:((d.1.getD i []).length:Int) > Jc d.1 i
       · rw [if_pos h,Int.max_eq_right (by omega)]
       · rw [zy h,Int.max_eq_left (by omega)]
     · intro k s hI
       subst hI
       simp only [xM]
       rw [zI (show ¬ (d.1.length:Int) < (d.1.length:Int) by omega),zo]
section
variable {g h:Gr} {l:List Int}
theorem zjR {n:Int} {R:List (Int×Int)} (h0:0≤n) (h8:n≤8) (hS:zln R) (hR:∀ z∈R,0≤z.1∧z.1 < z.2∧z.2 < n):y0 (n,R)=true:=by
 unfold y0
 simp only [zp]
 refine ⟨⟨zw h0,zw h8⟩,yV.2 fun i hi=>?_⟩
 have hi':i < R.length:=hi
 have hz:=hR _ (vS (d:=(0,0)) hi')
 unfold okE
 simp only [zp,y8]
 refine ⟨⟨⟨zw hz.1,zw hz.2.1⟩,zw hz.2.2⟩,?_⟩
 cases i with
 | zero=>exact .inl rfl
 | succ i=>
   right
   unfold zln at hS
   rw [Lc] at hS
   have:=hS i (i + 1) (by omega) hi' (by omega)
   show bef (R.getD i (0,0)) (R.getD (i + 1) (0,0))=true
   rw [zU,yW (show i < R.length by omega),y3,zU,yW hi',y3]
   exact this
end
def Ck (a:LB) (b:Int) (m:Nat):Prop:=(∀ y∈a,0≤y.v∧y.v≤255)∧0≤b∧b≤m
theorem Ck.le {a:LB} {b:Int} {m m':Nat} (h:Ck a b m) (hm:m≤m'):Ck a b m':=⟨h.1,h.2.1,by have:=h.2.2;omega⟩
theorem zhR {q:Int}:0≤yI .u64 q 255∧yI .u64 q 255≤255:=by
 unfold yI
 have h:(BitVec.ofInt IntKind.u64.bits q &&& BitVec.ofInt IntKind.u64.bits 255).toNat≤255:=by
  rw [BitVec.toNat_and]
  exact Zf Nat.and_le_right (by decide)
 generalize (BitVec.ofInt IntKind.u64.bits q &&& BitVec.ofInt IntKind.u64.bits 255).toNat=n at h
 have e:IntKind.wrap .u64 (n:Int)=n:=by
  simp only [IntKind.wrap,IntKind.bits,IntKind.signed,ux]
  have e1:((2:Int) ^ 64)=18446744073709551616:=by decide
  simp only [e1]
  split
  · rename_i hh;cases hh
  · omega
 rw [e];omega
theorem zs1 (q:Int):0≤w64 (yI .u64 q 255)∧w64 (yI .u64 q 255)≤255:=by
 have:=zhR (q:=q)
 rw [vP (by omega) (by omega)];exact this
section
variable {F:Nat} {c:CC} {m:Nat}
theorem zdh {x:Int} (h:Ck c.v.a c.v.b m) (hm:m < 1000000) (h0:0≤x) (hx:x≤255):∃ r c',uu F c x=some (r,c')∧0≤r∧r≤255∧Ck c'.a c'.b (m + 1):=by
 have hb:=h.2
 have hw:w64 (c.v.b + 1)=c.v.b + 1:=vP (by omega) (by omega)
 unfold uu
 rw [hw]
 have hk:Ck c.v.a (c.v.b + 1) (m + 1):=⟨h.1,by omega,by omega⟩
 cases decide ((c.v.b + 1)≤(c.v.a.length:Int)) with
 | true=>exact ⟨x,_,rfl,h0,hx,hk⟩
 | false=>
   exact ⟨_,_,rfl,(zs1 _).1,(zs1 _).2,hk⟩
theorem zfD (h:Ck c.v.a c.v.b m) (hm:m < 1000000):∃ r c',vU F c=some (r,c')∧0≤r∧r≤255∧Ck c'.a c'.b (m + 1):=by
 unfold vU
 by_cases hd:c.v.b < (c.v.a.length:Int)
 · rw [zw hd,zq]
   have hb:=h.2
   obtain ⟨i,hi⟩:∃ i:Nat,c.v.b=i:=⟨c.v.b.toNat,by omega⟩
   rw [hi,Kt (by omega),ze]
   have hy:=h.1 _ (XL (show i < c.v.a.length by omega))
   rw [vP (by omega) (by omega)]
   exact zdh h hm hy.1 hy.2
 · rw [zI hd,zo]
   exact zdh h hm (by omega) (by omega)
theorem uM {n:Int} (h:Ck c.v.a c.v.b m) (hm:m < 900000):∃ r c',yj F c n=some (r,c')∧0≤r∧(1≤n→r < n)∧(n≤1→r=0)∧Ck c'.a c'.b (m + 2):=by
 unfold yj
 have rem:∀ (v:Int) (c':CU),0≤v→1 < n→Ck c'.a c'.b (m + 2)→∃ r c'',uA F n c'.a c'.b c'.c.v v=some (r,c'')∧0≤r∧(1≤n→r < n)∧(n≤1→r=0)∧Ck c''.a c''.b (m + 2):=by
  intro v c' hv hn hk
  have e:ziA .i64 v n=some (v.tmod n):=by unfold ziA;rw [zy (by omega)]
  unfold uA
  rw [e]
  exact ⟨_,_,rfl,Int.tmod_nonneg _ hv,fun _=>Int.tmod_lt_of_pos _ (by omega),fun h=>by omega,hk⟩
 by_cases hn:n≤1
 · rw [zw hn,zq]
   exact ⟨0,_,rfl,by omega,fun h=>by omega,fun _=>rfl,h.le (by omega)⟩
 · rw [zI hn,zo]
   obtain ⟨r,c1,e1,h1,h2,k1⟩:=zfD (F:=F) (c:=Cu.mk c.v) h (by omega)
   rw [e1,ze]
   by_cases h200:n > 200
   · rw [zw h200,zq]
     obtain ⟨r',c2,e2,h3,h4,k2⟩:=zfD (F:=F) (c:=Cu.mk c1) k1 (by omega)
     have e2':vU F (Cu.mk (r,c1).2)=some (r',c2):=e2
     rw [e2',ze]
     refine rem _ c2 ?_ (by omega) k2
     show 0≤w64 ((w64 (r * 256)) + r')
     rw [vP (x:=r * 256) (by omega) (by omega),vP (by omega) (by omega)];omega
   · rw [zI h200,zo]
     exact rem r c1 h1 (by omega) (k1.le (by omega))
theorem JW {xs:List Int} (h:Ck c.v.a c.v.b m) (hm:m < 900000) (hx:0 < xs.length):∃ r c',xx F c xs=some (r,c')∧r∈xs∧Ck c'.a c'.b (m + 2):=by
 unfold xx
 obtain ⟨r,c1,e1,h1,h2,_,k1⟩:=uM (F:=F) (c:=Cu.mk c.v) (n:=(xs.length:Int)) h hm
 rw [e1,ze]
 have:=h2 (by omega)
 obtain ⟨i,hi⟩:∃ i:Nat,r=i:=⟨r.toNat,by omega⟩
 subst hi
 have e:idx xs ((i:Int),c1).1=some xs[i]:=Kt (by omega)
 rw [e]
 exact ⟨_,_,rfl,XL _,k1⟩
theorem zaW {n:Int} (h:Ck c.v.a c.v.b m) (hm:m < 900000):∃ r c',wF F c n=some (r,c')∧Ck c'.a c'.b (m + 2):=by
 unfold wF
 obtain ⟨r,c1,e1,_,_,_,k1⟩:=uM (F:=F) (c:=Cu.mk c.v) (n:=n) h hm
 rw [e1]
 exact ⟨_,_,rfl,k1⟩
def GOk (x:Option (GR×CU)):Prop:=∃ g c',x=some (g,c')∧g.2.length≤400∧Ck c'.a c'.b 5000
theorem LD {α:Type} {xs ys:List α} (h:xs.length + ys.length≤1000):vh xs ys=some (xs++ys):=by
 unfold vh
 rw [if_pos (Zf h (by decide))]
theorem zgP {o:Oh (Int×Int)} (h:Ck c.v.a c.v.b m) (hm:m≤4000) (ho:o.v.length≤300):GOk (uh F c o):=by
 unfold uh
 obtain ⟨r,c1,e1,h1,h2,_,k1⟩:=uM (F:=F) (c:=Cu.mk c.v) (n:=50) h (by omega)
 rw [e1,ze]
 have fin:GOk (some ((o.a,o.v),c1)):=⟨_,_,rfl,by show o.v.length≤400;omega,k1.le (by omega)⟩
 cases (r,c1).1 == 0 with
 | true=>
   rw [zq]
   obtain ⟨r,c2,e2,_,k2⟩:=JW (F:=F) (c:=Cu.mk c1) (xs:=[(-1),8,9,0,4611686018427387904]) k1 (by omega) (by decide)
   have e2':xx F (Cu.mk (r,c1).2) [(-1),8,9,0,4611686018427387904]=some (r,c2):=e2
   rw [e2',ze]
   exact ⟨_,_,rfl,by show o.v.length≤400;omega,k2.le (by omega)⟩
 | false=>
   rw [zo]
   cases (r,c1).1 == 1 with
   | true=>
     rw [zq]
     obtain ⟨r2,c2,e2,_,_,_,k2⟩:=uM (F:=F) (c:=Cu.mk c1) (n:=4) k1 (by omega)
     have e2':yj F (Cu.mk (r,c1).2) 4=some (r2,c2):=e2
     rw [e2',ze]
     obtain ⟨r3,c3,e3,_,_,_,k3⟩:=uM (F:=F) (c:=Cu.mk c2) (n:=9) k2 (by omega)
     have e3':yj F (Cu.mk (r2,c2).2) 9=some (r3,c3):=e3
     rw [e3',ze,LD (by simp;omega),ze]
     exact ⟨_,_,rfl,by simp;omega,k3.le (by omega)⟩
   | false=>
     rw [zo]
     cases (r,c1).1 == 2 with
     | true=>
       rw [zq]
       by_cases hl:(o.v.length:Int) > 0
       · rw [zw hl,zq]
         obtain ⟨r2,c2,e2,h3,h4,_,k2⟩:=uM (F:=F) (c:=Cu.mk c1) (n:=(o.v.length:Int)) k1 (by omega)
         have e2':yj F (Cu.mk (r,c1).2) (o.v.length:Int)=some (r2,c2):=e2
         rw [e2',ze]
         have:=h4 (by omega)
         obtain ⟨i,hi⟩:∃ i:Nat,r2=i:=⟨r2.toNat,by omega⟩
         subst hi
         have e:idx o.v ((i:Int),c2).1=some o.v[i]:=Kt (by omega)
         rw [e,ze,LD (by simp;omega),ze]
         exact ⟨_,_,rfl,by simp;omega,k2.le (by omega)⟩
       · rw [zI hl,zo]
         exact fin
     | false=>exact fin
theorem M1 {a:LB} {b v n:Int} {xs:List (Int×Int)} (h:Ck a b m) (hm:m≤4000) (ho:xs.length≤300):GOk (xz F a b v n (.of xs)):=by
 unfold xz
 obtain ⟨g,c',e,h1,h2⟩:=zgP (F:=F) (c:=cu a b v) (o:=Oh.mk n xs) h hm ho
 show GOk (Option.bind (some xs) _)
 rw [ze,e,ze]
 exact ⟨g,c',rfl,h1,h2⟩
end
theorem zek (K:Nat):∀ n:Nat,n≤8→∃ l,YZ (K + 20) (n:Int)=some ((n:Int),.of l)∧l.length≤10
 | 0,_=>⟨_,rfl,by decide⟩
 | 1,_=>⟨_,rfl,by decide⟩
 | 2,_=>⟨_,rfl,by decide⟩
 | 3,_=>⟨_,rfl,by decide⟩
 | 4,_=>⟨_,rfl,by decide⟩
 | 5,_=>⟨_,rfl,by decide⟩
 | 6,_=>⟨_,rfl,by decide⟩
 | 7,_=>⟨_,rfl,by decide⟩
 | 8,_=>⟨_,rfl,by decide⟩
 | n + 9,h=>absurd h (by omega)
theorem zcb (K:Nat):∀ n:Nat,n≤8→∃ l,Zj (K + 20) (n:Int)=some ((n:Int),.of l)∧l.length≤300
 | 0,_=>⟨_,rfl,by decide⟩
 | 1,_=>⟨_,rfl,by decide⟩
 | 2,_=>⟨_,rfl,by decide⟩
 | 3,_=>⟨_,rfl,by decide⟩
 | 4,_=>⟨_,rfl,by decide⟩
 | 5,_=>⟨_,rfl,by decide⟩
 | 6,_=>⟨_,rfl,by decide⟩
 | 7,_=>⟨_,rfl,by decide⟩
 | 8,_=>⟨_,rfl,by decide⟩
 | n + 9,h=>absurd h (by omega)
theorem zim {F n:Nat} (hF:300≤F) (h:n≤8):∃ l,Ya F (n:Int)=some ((n:Int),.of l)∧l.length≤20:=by
 obtain ⟨K,rfl⟩:∃ K,F=K + 20:=⟨F - 20,by omega⟩
 obtain ⟨l,e,hl⟩:=zek K n h
 unfold Ya
 rw [e,ze]
 have:(((n:Int),NL.of l).2).list=l:=rfl
 rw [this,Nl (by omega) (by omega),ze]
 exact ⟨_,rfl,by rw [No];omega⟩
theorem zpp {F n i:Nat} {q:Int×CU} {t:Bool×CU} {c5:LB→Int→Int→NL (Int×Int)→Int→Option (GR×CU)} (hn:n≤8) (hF:500≤F) (hi:i < n)
    (H:∀ (c':CU) (ys:List (Int×Int)),Ck c'.a c'.b (50 + 40 * (i + 1))→ys.length≤10 * (i + 1)→GOk (c5 c'.a c'.b c'.c.v (.of ys) ((i + 1:Nat):Int))) :
    ∀ (d j k:Nat) (a:LB) (b v:Int) (xs:List (Int×Int)),j + d=n→d < k→Ck a b (50 + 40 * i + 2 * j)→xs.length≤10 * i + j→GOk (yZ F (n:Int) q t (i:Int) c5 k a b v (.of xs) (j:Int)):=by
 have hw:w64 ((i:Int) + 1)=((i + 1:Nat):Int):=yw (n:=n) (by omega) (by unfold Sm;omega)
 intro d
 induction d with
 | zero=>
   intro j k a b v xs hj hk hc hx
   obtain ⟨k,rfl⟩:∃ k',k=k' + 1:=⟨k - 1,by omega⟩
   simp only [yZ]
   rw [zI (by omega),zo,zfW,ze]
   obtain ⟨r,c1,e1,h1,_,_,k1⟩:=uM (F:=F) (c:=cu a b v) (n:=max (i:Int) 1) hc (by omega)
   rw [e1,ze]
   have hk1:Ck c1.a c1.b (50 + 40 * (i + 1)):=k1.le (by omega)
   have h4f:GOk (xT F (r,c1) (n:Int) (.of xs) q t (i:Int) c5 false):=by
    show GOk (c5 c1.a c1.b c1.c.v (.of xs) (w64 ((i:Int) + 1)))
    rw [hw];exact H c1 xs hk1 (by omega)
   have h4t:GOk (xT F (r,c1) (n:Int) (.of xs) q t (i:Int) c5 true):=by
    unfold xT
    rw [zq,show (NL.of xs).list=xs from rfl,Nl (by omega) (by omega),ze]
    show GOk (c5 c1.a c1.b c1.c.v (.of _) (w64 ((i:Int) + 1)))
    rw [hw];exact H c1 _ hk1 (by rw [No];omega)
   by_cases h0:(i:Int) > 0
   · rw [zw h0,zq]
     cases !t.1 with
     | false=>exact h4f
     | true=>
       rw [zq]
       obtain ⟨y,hy⟩:∃ y:Nat,r=y:=⟨r.toNat,by omega⟩
       subst hy
       have e:Xl F ((n:Int),(NL.of xs).list) (i:Int) ((y:Int),c1).1=_:=zfN (g:=((n:Int),xs)) (F:=F) (a:=i) (b:=y) (by show xs.length < F;omega) (by show Sm xs.length;unfold Sm;omega)
       rw [e,ze]
       cases !adj ((n:Int),xs) i y with
       | false=>exact h4f
       | true=>exact h4t
   · rw [zI h0];exact h4f
 | succ d ih=>
   intro j k a b v xs hj hk hc hx
   obtain ⟨k,rfl⟩:∃ k',k=k' + 1:=⟨k - 1,by omega⟩
   simp only [yZ]
   rw [zw (by omega),zq]
   obtain ⟨r,c1,e1,h1,_,_,k1⟩:=uM (F:=F) (c:=cu a b v) (n:=q.1) hc (by omega)
   rw [e1,ze]
   have hwj:w64 ((j:Int) + 1)=((j + 1:Nat):Int):=yw (n:=n) (by omega) (by unfold Sm;omega)
   cases (r,c1).1 == 0 with
   | true=>
     rw [zq,show (NL.of xs).list=xs from rfl,Nl (by omega) (by omega),ze]
     show GOk (yZ F (n:Int) q t (i:Int) c5 k c1.a c1.b c1.c.v (.of _) (w64 ((j:Int) + 1)))
     rw [hwj]
     exact ih (j + 1) k _ _ _ _ (by omega) (by omega) (k1.le (by omega)) (by rw [No];omega)
   | false=>
     show GOk (yZ F (n:Int) q t (i:Int) c5 k c1.a c1.b c1.c.v (.of xs) (w64 ((j:Int) + 1)))
     rw [hwj]
     exact ih (j + 1) k _ _ _ _ (by omega) (by omega) (k1.le (by omega)) (by omega)
theorem zod {F n:Nat} {q:Int×CU} {t:Bool×CU} (hn:n≤8) (hF:500≤F) :
    ∀ (d i k:Nat) (a:LB) (b v:Int) (xs:List (Int×Int)),i + d=n→d < k→Ck a b (50 + 40 * i)→xs.length≤10 * i→GOk (xS F (n:Int) q t k a b v (.of xs) (i:Int)):=by
 intro d
 induction d with
 | zero=>
   intro i k a b v xs hj hk hc hx
   obtain ⟨k,rfl⟩:∃ k',k=k' + 1:=⟨k - 1,by omega⟩
   simp only [xS]
   rw [zI (by omega),zo]
   exact M1 hc (by omega) (by omega)
 | succ d ih=>
   intro i k a b v xs hj hk hc hx
   obtain ⟨k,rfl⟩:∃ k',k=k' + 1:=⟨k - 1,by omega⟩
   simp only [xS]
   rw [zw (by omega),zq,yw (n:=n) (by omega) (by unfold Sm;omega)]
   exact zpp hn hF (by omega) (fun c' ys hc' hy=>ih (i + 1) k _ _ _ _ (by omega) (by omega) hc' hy) (n - (i + 1)) (i + 1) F a b v xs (by omega) (by omega) (hc.le (by omega)) (by omega)
theorem zbV {F:Nat} {c:CC} {z:Int} (h:Ck c.v.a c.v.b 0) (hF:500≤F) (h0:0≤z) (h8:z≤8):GOk (w8 F c z):=by
 obtain ⟨K,hK⟩:∃ K,F=K + 20:=⟨F - 20,by omega⟩
 have j5:∀ (c1:CU) (x:Int),Ck c1.a c1.b 10→0≤x→GOk (wW F z c1.a c1.b c1.c.v x):=by
  intro c1 x k1 hx
  unfold wW
  rw [M5,ze]
  obtain ⟨n,hn⟩:∃ n:Nat,min x z=n:=⟨(min x z).toNat,by omega⟩
  have hn8:n≤8:=by omega
  rw [hn]
  obtain ⟨r,c2,e2,h1,_,_,k2⟩:=uM (F:=F) (c:=cu c1.a c1.b c1.c.v) (n:=8) k1 (by omega)
  rw [e2,ze]
  have k2':Ck c2.a c2.b 20:=k2.le (by omega)
  cases (r,c2).1 == 0 with
  | true=>
    rw [zq]
    obtain ⟨l,e,hl⟩:=zek K n hn8
    rw [← hK] at e
    rw [e,ze]
    exact M1 k2' (by omega) (by omega)
  | false=>
    rw [zo]
    cases (r,c2).1 == 1 with
    | true=>
      rw [zq]
      by_cases h2:(n:Int) > 2
      · rw [zw h2,zq]
        obtain ⟨l,e,hl⟩:=zim (F:=F) (by omega) hn8
        rw [e,ze]
        exact M1 k2' (by omega) (by omega)
      · rw [zI h2,zo]
        exact M1 k2' (by omega) (by simp)
    | false=>
      rw [zo]
      cases (r,c2).1 == 2 with
      | true=>
        rw [zq]
        obtain ⟨l,e,hl⟩:=zcb K n hn8
        rw [← hK] at e
        rw [e,ze]
        exact M1 k2' (by omega) (by omega)
      | false=>
        rw [zo]
        obtain ⟨r3,c3,e3,_,k3⟩:=JW (F:=F) (c:=Cu.mk c2) (xs:=[3,4,6]) k2' (by omega) (by decide)
        have e3':xx F (Cu.mk (r,c2).2) [3,4,6]=some (r3,c3):=e3
        rw [e3',ze]
        obtain ⟨r4,c4,e4,k4⟩:=zaW (F:=F) (c:=Cu.mk c3) (n:=6) k3 (by omega)
        have e4':wF F (Cu.mk (r3,c3).2) 6=some (r4,c4):=e4
        rw [e4',ze]
        exact zod hn8 hF n 0 F c4.a c4.b c4.c.v [] (by omega) (by omega) (k4.le (by omega)) (by simp)
 unfold w8
 obtain ⟨r,c1,e1,hr,k1⟩:=JW (F:=F) (c:=Cu.mk c.v) (xs:=[4,5,3,6,2,1,0]) h (by omega) (by decide)
 rw [e1,ze]
 have hr0:0≤r:=by
  have:∀ y∈([4,5,3,6,2,1,0]:List Int),0≤y:=by decide
  exact this r hr
 by_cases h6:z > 6
 · rw [zw h6,zq]
   obtain ⟨r2,c2,e2,k2⟩:=zaW (F:=F) (c:=Cu.mk c1) (n:=4) k1 (by omega)
   have e2':wF F (Cu.mk (r,c1).2) 4=some (r2,c2):=e2
   rw [e2',ze]
   unfold vC
   cases (r2,c2).1 with
   | true=>
     rw [zq]
     obtain ⟨r3,c3,e3,h3,h4,_,k3⟩:=uM (F:=F) (c:=cu c2.a c2.b c2.c.v) (n:=2) k2 (by omega)
     have e3':yj F (cu (r2,c2).2.a (r2,c2).2.b (r2,c2).2.c.v) 2=some (r3,c3):=e3
     rw [e3',ze]
     have:=h4 (by omega)
     exact j5 c3 _ (k3.le (by omega)) (by show 0≤w64 (7 + r3);rw [vP (by omega) (by omega)];omega)
   | false=>exact j5 c2 r (k2.le (by omega)) hr0
 · rw [zI h6,zo]
   exact j5 c1 r (k1.le (by omega)) hr0
theorem Qa {F:Nat} {code:LB} (hF:500≤F) (hc:∀ y∈code,0≤y.v∧y.v≤255):∃ g c,vt F (cu code 0 0)=some (g,c)∧g.2.length≤400∧Ck c.a c.b 5000:=by
 unfold vt
 obtain ⟨g,c',e,h1,h2⟩:=zbV (F:=F) (c:=Cu.mk (cu code 0 0).v) (z:=6) ⟨hc,Int.le_refl _,Int.le_refl _⟩ hF (by omega) (by omega)
 rw [e];exact ⟨g,c',rfl,h1,h2⟩
theorem zjY {α:Type} {xs:List α} {a b:Nat} (h:a≤b) (hb:b≤xs.length):∃ ys,sub xs (a:Int) (b:Int)=some ys∧ys.length=b - a:=by
 unfold sub
 rw [if_pos ⟨by omega,by omega,by omega⟩]
 exact ⟨_,rfl,by simp;omega⟩
theorem M4 {F m:Nat} {g:GR} (hF:500≤F) (hm:m≤100000):∀ (d i k:Nat) (a:LB) (b v:Int) (xs:List Int),i + d=(min g.1 8).toNat→d < k→Ck a b (m + 2 * i)→xs.length=i →
    ∃ l c',wB F g k a b v xs (i:Int)=some (l,c')∧l.length≤20∧Ck c'.a c'.b (m + 1000):=by
 intro d
 have fin:∀ (i k:Nat) (a:LB) (b v:Int) (xs:List Int),¬ (i:Int) < min g.1 8→Ck a b (m + 2 * i)→xs.length=i→i≤8→∃ l c',wB F g (k + 1) a b v xs (i:Int)=some (l,c')∧l.length≤20∧Ck c'.a c'.b (m + 1000):=by
  intro i k a b v xs hi hc hx h8
  simp only [wB]
  rw [M5,ze,zI hi,zo]
  obtain ⟨r,c1,e1,k1⟩:=zaW (F:=F) (c:=cu a b v) (n:=24) hc (by omega)
  rw [e1,ze]
  cases (r,c1).1 with
  | true=>
    rw [zq]
    obtain ⟨r2,c2,e2,_,k2⟩:=JW (F:=F) (c:=Cu.mk c1) (xs:=[0,(-1),8]) k1 (by omega) (by decide)
    have e2':xx F (Cu.mk (r,c1).2) [0,(-1),8]=some (r2,c2):=e2
    rw [e2',ze,LD (by simp;omega),ze]
    exact ⟨_,_,rfl,by simp;omega,k2.le (by omega)⟩
  | false=>exact ⟨_,_,rfl,by omega,k1.le (by omega)⟩
 induction d with
 | zero=>
   intro i k a b v xs hj hk hc hx
   obtain ⟨k,rfl⟩:∃ k',k=k' + 1:=⟨k - 1,by omega⟩
   exact fin i k a b v xs (by omega) hc hx (by omega)
 | succ d ih=>
   intro i k a b v xs hj hk hc hx
   obtain ⟨k,rfl⟩:∃ k',k=k' + 1:=⟨k - 1,by omega⟩
   simp only [wB]
   rw [M5,ze,zw (by omega),zq,hx,yw (n:=i + 1) (by omega) (by unfold Sm;omega)]
   obtain ⟨r,c1,e1,h1,h2,_,k1⟩:=uM (F:=F) (c:=cu a b v) (n:=((i + 1:Nat):Int)) hc (by omega)
   rw [e1,ze]
   have:=h2 (by omega)
   obtain ⟨p,hp⟩:∃ p:Nat,r=p:=⟨r.toNat,by omega⟩
   subst hp
   obtain ⟨ys,s1,s2⟩:=zjY (xs:=xs) (a:=0) (b:=p) (by omega) (by omega)
   obtain ⟨zs,s3,s4⟩:=zjY (xs:=xs) (a:=p) (b:=i) (by omega) (by omega)
   have s1':sub xs 0 ((p:Int),c1).1=some ys:=s1
   have s3':sub xs ((p:Int),c1).1 (i:Int)=some zs:=s3
   rw [s1',ze,LD (by simp;omega),ze,LD (by simp;omega),ze,s3',ze,LD (by simp;omega),ze]
   exact ih (i + 1) k c1.a c1.b c1.c.v _ (by omega) (by omega) (k1.le (by omega)) (by simp;omega)
theorem zg2 {F:Nat} {xs:List Int} (hF:xs.length < F) (hs:Sm xs.length):Jd F xs xs=some true:=by
 unfold Jd
 rw [WN,zo]
 rw [vQ (L:=fun k i=>YW F xs xs k i) (n:=xs.length) (p:=fun _=>true) (bad:=some false) (fin:=some true) ?_ ?_ F hF]
 · have:wG (fun _=>true) xs.length=true:=yV.2 fun _ _=>rfl
   rw [this];rfl
 · intro k i hi
   simp only [YW]
   rw [zw (by omega),zq,z9 (d:=0) hi,ze,ze,WN,zo,zq,yw hi hs]
 · intro k
   simp only [YW]
   rw [zI (by omega),zo]
theorem zlH {F n:Nat} {code:LB} (hl:(code.length:Int)≤65536) (hc:∀ y∈code,0≤y.v∧y.v≤255):∃ c2,J0 F code (n:Int)=some c2∧∀ y∈c2,0≤y.v∧y.v≤255:=by
 have key:∀ a:Nat,a≤code.length→∃ c2,WL F code (a:Int)=some c2∧∀ y∈c2,0≤y.v∧y.v≤255:=by
  intro a ha
  unfold WL
  have e:sub code (a:Int) (code.length:Int)=some (code.drop a):=by
   unfold sub
   rw [if_pos ⟨by omega,by omega,by omega⟩]
   have:List.take (code.length - a) (code.drop a)=code.drop a:=List.take_of_length_le (by rw [List.length_drop];omega)
   simpa using this
  have hL:(code.drop a).length≤65536:=by simp;omega
  have e1:vh ([]:LB) (code.drop a)=some ([]++code.drop a):=ub (by simp;omega)
  have e2:vh ([]++code.drop a) [(Kd.mk (IntKind.u8.wrap (a:Int)):Kd .u8)]=some (([]++code.drop a)++[(Kd.mk (IntKind.u8.wrap (a:Int)):Kd .u8)]):=ub (by simp;omega)
  rw [e,ze,e1,ze,e2,ze]
  refine ⟨_,rfl,fun y hy=>?_⟩
  rw [List.nil_append,zO] at hy
  rcases hy with hy | hy
  · exact hc y (List.mem_of_mem_drop hy)
  · rw [xo] at hy
    subst hy
    show 0≤IntKind.u8.wrap (a:Int)∧IntKind.u8.wrap (a:Int)≤255
    simp only [IntKind.wrap,IntKind.bits,IntKind.signed,ux]
    have e1:((2:Int) ^ 8)=256:=by decide
    simp only [e1]
    split
    · rename_i hh;cases hh
    · omega
 unfold J0
 by_cases h:(n:Int) > (code.length:Int)
 · rw [zw h,zq];exact key _ (xF _)
 · rw [zI h,zo];exact key n (by omega)
section
variable {F:Nat} {g:Gr} {l:List Int}
theorem zgD {xs:List (Int×Int)} (hF:xs.length < F) (hs:Sm xs.length):XB F xs xs=some true:=by
 unfold XB
 rw [WN,zo]
 rw [vQ (L:=fun k i=>Ye F xs xs k i) (n:=xs.length) (p:=fun _=>true) (bad:=some false) (fin:=some true) ?_ ?_ F hF]
 · have:wG (fun _=>true) xs.length=true:=yV.2 fun _ _=>rfl
   rw [this];rfl
 · intro k i hi
   simp only [Ye]
   rw [zw (by omega),zq,z9 (d:=(0,0)) hi,ze,ze,ZL,ZL,wT,yS,zo,zq,yw hi hs]
 · intro k
   simp only [Ye]
   rw [zI (by omega),zo]
end
inductive Rip:List (Nat→Bool)→Prop
 | one (a:Nat→Bool):Rip [a]
 | cons {a b:Nat→Bool} {rest:List (Nat→Bool)}:b∈rest→(∀ y,a y=true→(∃ c,c∈rest∧c y=true)→b y=true)→Rip rest→Rip (a :: rest)
section
variable {g:Gr}
theorem zkf {T:Nat→Int} {t:Int} {m x:Nat} (hT:Lw g.1.toNat (elC g) (-1) T) (hm:m < 2 ^ g.1.toNat) (hx:x < g.1.toNat) (hb:m.testBit x=false) (hc:elC g m x≤t) (h:T (m ||| 2 ^ x)≤t):T m≤t:=by
 rw [hT m hm]
 have hmem:(x:Int)∈Wu g.1.toNat m:=JY.2 ⟨x,rfl,hx,hb⟩
 refine (zr3 (fun e=>by rw [e] at hmem;cases hmem)).2 ⟨x,hmem,?_⟩
 rw [z8];omega
theorem zhV {T:Nat→Int} {t:Int} {m:Nat} (hT:Lw g.1.toNat (elC g) (-1) T) (hm:m < 2 ^ g.1.toNat) (ht:-1≤t) (h:∀ y,y < g.1.toNat→m.testBit y=true):T m≤t:=by
 rw [hT m hm,(zjk hm).2 (zfz hm h),zoC];exact ht
theorem zoP {T:Nat→Int} {t:Int} (hg:y0 g=true) (hT:Lw g.1.toNat (elC g) (-1) T) (ht:-1≤t):∀ (N:Nat) (bs:List (Nat→Bool)) (m:Nat),bs.length + xC (fun y=>!m.testBit y) g.1.toNat≤N→m < 2 ^ g.1.toNat→Rip bs →
    (∀ y,y < g.1.toNat→m.testBit y=false→∃ c,c∈bs∧c y=true)→(∀ c,c∈bs→∀ y,c y=true→m.testBit y=false∧y < g.1.toNat) →
    (∀ x y,x < g.1.toNat→y < g.1.toNat→x≠y→m.testBit x=false→m.testBit y=false→KT g m x y=true→∃ c,c∈bs∧c x=true∧c y=true) →
    (∀ c,c∈bs→(xC c g.1.toNat:Int)≤t + 1)→T m≤t:=by
 intro N
 induction N with
 | zero=>
   intro bs m hN hm hr
   cases hr <;> simp at hN
 | succ N ih=>
   intro bs m hN hm hr H1 H2 H3 H4
   obtain ⟨a,rest,rfl⟩:∃ a rest,bs=a :: rest:=by cases hr <;> exact ⟨_,_,rfl⟩
   by_cases hx:∃ x,a x=true∧∀ c,c∈rest→c x=false
   · obtain ⟨x,ax,hrest⟩:=hx
     obtain ⟨mx,xn⟩:=H2 a (by simp) x ax
     have only:∀ c,c∈a :: rest→c x=true→c=a:=by
      intro c hc hcx
      rcases yf.1 hc with rfl | hc
      · rfl
      · rw [hrest c hc] at hcx;cases hcx
     have near:∀ y,y < g.1.toNat→y≠x→m.testBit y=false→KT g m x y=true→a y=true:=by
      intro y hy hne my hv
      obtain ⟨c,hc,c1,c2⟩:=H3 x y xn hy (fun e=>hne e.symm) mx my hv
      rw [only c hc c1] at c2;exact c2
     have hbit:∀ y,(m ||| 2 ^ x).testBit y=(m.testBit y || decide (x=y)):=fun y=>by rw [vo,wh]
     refine zkf hT hm xn mx ?_ ?_
     · have h1:=Wk (p:=Zi g m x) (q:=a) (n:=g.1.toNat) (fun y hy hl=>by
        obtain ⟨l1,l2⟩:=Ll hl
        exact near y hy l2 l1 (by rw [← YI l1 l2];exact hl)) ⟨x,xn,by
        cases e:Zi g m x x with
        | false=>rfl
        | true=>exact absurd rfl (Ll e).2,ax⟩
       have h2:=H4 a (by simp)
       unfold elC;omega
     · have hlen:(a :: rest).length=rest.length + 1:=rfl
       refine ih ((fun y=>a y && !(y == x)) :: rest) (m ||| 2 ^ x) ?_ (zmk hm xn) ?_ ?_ ?_ ?_ ?_
       · have:=Wk (p:=fun y=>!(m ||| 2 ^ x).testBit y) (q:=fun y=>!m.testBit y) (n:=g.1.toNat) (fun y _ h=>by
          simp only [hbit,yT,Bool.or_eq_false_iff] at h ⊢
          exact h.1) ⟨x,xn,by simp [hbit],by simp [mx]⟩
         simp only [ZK] at hN ⊢
         omega
       · cases hr with
         | one=>exact .one _
         | cons h1 h2 h3=>exact .cons h1 (fun y hy hc=>h2 y (by rw [zp] at hy;exact hy.1) hc) h3
       · intro y hy my
         rw [hbit,Bool.or_eq_false_iff,decide_eq_false_iff_not] at my
         obtain ⟨c,hc,cy⟩:=H1 y hy my.1
         rcases yf.1 hc with rfl | hc
         · refine ⟨_,Y7,?_⟩
           have:(y == x)=false:=by simpa using fun e=>my.2 e.symm
           show (c y && !(y == x))=true
           rw [cy,this];rfl
         · exact ⟨c,by simp [hc],cy⟩
       · intro c hc y cy
         rcases yf.1 hc with rfl | hc
         · have cy:(a y && !(y == x))=true:=cy
           simp only [zp,yT,wv] at cy
           obtain ⟨h1,h2⟩:=H2 a (by simp) y cy.1
           exact ⟨by rw [hbit,h1,zI (fun e=>cy.2 e.symm)];rfl,h2⟩
         · obtain ⟨h1,h2⟩:=H2 c (by simp [hc]) y cy
           refine ⟨?_,h2⟩
           rw [hbit,h1,zI];rfl
           rintro rfl
           rw [hrest c hc] at cy;cases cy
       · intro u v hu hv huv mu mv hvia
         rw [hbit,Bool.or_eq_false_iff,decide_eq_false_iff_not] at mu mv
         have eu:(u == x)=false:=by simpa using fun e=>mu.2 e.symm
         have ev:(v == x)=false:=by simpa using fun e=>mv.2 e.symm
         rw [Nw hg xn hu hv hm,y8,zp] at hvia
         rcases hvia with h | ⟨h1,h2⟩
         · obtain ⟨c,hc,c1,c2⟩:=H3 u v hu hv huv mu.1 mv.1 h
           rcases yf.1 hc with rfl | hc
           · refine ⟨_,Y7,?_,?_⟩
             · show (c u && !(u == x))=true
               rw [c1,eu];rfl
             · show (c v && !(v == x))=true
               rw [c2,ev];rfl
           · exact ⟨c,by simp [hc],c1,c2⟩
         · have a1:=near u hu (fun e=>mu.2 e.symm) mu.1 h1
           have a2:=near v hv (fun e=>mv.2 e.symm) mv.1 h2
           refine ⟨_,Y7,?_,?_⟩
           · show (a u && !(u == x))=true
             rw [a1,eu];rfl
           · show (a v && !(v == x))=true
             rw [a2,ev];rfl
       · intro c hc
         rcases yf.1 hc with rfl | hc
         · have h1:=K9 (p:=fun y=>a y && !(y == x)) (q:=a) (n:=g.1.toNat) fun y _ h=>by rw [zp] at h;exact h.1
           have h2:=H4 a (by simp)
           omega
         · exact H4 c (by simp [hc])
   · have hx:∀ x,a x=true→∃ c,c∈rest∧c x=true:=by
      intro x ax
      refine ZA fun hno=>hx ⟨x,ax,fun c hc=>?_⟩
      cases e:c x with
      | false=>rfl
      | true=>exact absurd ⟨c,hc,e⟩ hno
     cases hr with
     | one=>
       refine zhV hT hm ht fun y hy=>?_
       cases e:m.testBit y with
       | true=>rfl
       | false=>
         obtain ⟨c,hc,cy⟩:=H1 y hy e
         rw [xo] at hc;subst hc
         obtain ⟨c,hc,_⟩:=hx y cy
         cases hc
     | @cons _ b _ h1 h2 h3=>
       have hab:∀ y,a y=true→b y=true:=fun y ay=>h2 y ay (hx y ay)
       refine ih rest m (by simp only [ZK] at hN;omega) hm h3 (fun y hy my=>?_) (fun c hc=>H2 c (by simp [hc])) (fun u v hu hv huv mu mv hvia=>?_) fun c hc=>H4 c (by simp [hc])
       · obtain ⟨c,hc,cy⟩:=H1 y hy my
         rcases yf.1 hc with rfl | hc
         · exact ⟨b,h1,hab y cy⟩
         · exact ⟨c,hc,cy⟩
       · obtain ⟨c,hc,c1,c2⟩:=H3 u v hu hv huv mu mv hvia
         rcases yf.1 hc with rfl | hc
         · exact ⟨b,h1,hab u c1,hab v c2⟩
         · exact ⟨c,hc,c1,c2⟩
end
theorem zan {g:Gr} {d:Nat} {p:Nat→Bool} (hg:y0 g=true) (h:(prt g d p).length=1) (hd:xC p g.1.toNat≤d):(∃ x,x < g.1.toNat∧p x=true)∧∀ x y,x < g.1.toNat→y < g.1.toNat→p x=true→p y=true→xw g p x y=true:=by
 obtain ⟨c,hc⟩:=List.length_eq_one_iff.1 h
 constructor
 · obtain ⟨x,hx,px,_⟩:=(MU hg d p c hd).1 (by rw [hc];simp)
   exact ⟨x,hx,px⟩
 · intro x y hx hy px py
   have h1:=(MU hg d p (mkm (xw g p x) g.1.toNat) hd).2 ⟨x,hx,px,rfl⟩
   have h2:=(MU hg d p (mkm (xw g p y) g.1.toNat) hd).2 ⟨y,hy,py,rfl⟩
   rw [hc,xo] at h1 h2
   have e:(mkm (xw g p x) g.1.toNat).testBit y=(mkm (xw g p y) g.1.toNat).testBit y:=by rw [h1,h2]
   rw [yA,yA,zw hy,z6,z6,xh] at e
   exact e
inductive Att (g:Gr):List Nat→Prop
 | one (v:Nat):v < g.1.toNat→Att g [v]
 | cons {v u:Nat} {vs:List Nat}:v < g.1.toNat→v∉vs→u∈vs→adj g u v=true→Att g vs→Att g (v :: vs)
section
variable {g:Gr}
theorem Ut {vs:List Nat} (h:Att g vs):∀ x∈vs,x < g.1.toNat:=by
 induction h with
 | one v hv=>intro x hx;rw [xo] at hx;subst hx;exact hv
 | cons hv _ _ _ _ ih=>
   intro x hx
   rcases yf.1 hx with rfl | hx
   · exact hv
   · exact ih x hx
theorem QY {vs:List Nat} (h:Att g vs):vs.Nodup:=by
 induction h with
 | one v hv=>simp
 | cons _ h2 _ _ _ ih=>exact List.nodup_cons.2 ⟨h2,ih⟩
theorem zfM (hg:y0 g=true) (hc:∀ x y,x < g.1.toNat→y < g.1.toNat→xw g (fun _=>true) x y=true):∀ (d:Nat) (vs:List Nat),vs.length + d=g.1.toNat→Att g vs→∃ ws,Att g ws∧∀ y,y < g.1.toNat→y∈ws
 | 0,vs,hd,h=>by
   refine ⟨vs,h,fun y hy=>?_⟩
   refine ZA fun hno=>?_
   have:=KP (List.nodup_cons.2 ⟨hno,QY h⟩) (N:=g.1.toNat) fun x hx=>by
    rcases yf.1 hx with rfl | hx
    · exact hy
    · exact Ut h x hx
   simp at this;omega
 | d + 1,vs,hd,h=>by
   by_cases hcov:∀ y,y < g.1.toNat→y∈vs
   · exact ⟨vs,h,hcov⟩
   · have hex:∃ u v,u∈vs∧v∉vs∧adj g u v=true:=by
      refine ZA fun hno=>hcov fun y hy=>?_
      obtain ⟨r,hr⟩:∃ r,r∈vs:=by cases h <;> exact ⟨_,Y7⟩
      have:=vx (C:=fun j=>decide (j∈vs)) (zw hr) (fun a b ha _ hab=>by
       refine zw (ZA fun hb=>hno ⟨a,b,of_decide_eq_true ha,hb,hab⟩)) (hc r y (Ut h r hr) hy)
      exact of_decide_eq_true this
     obtain ⟨u,v,hu,hv,ha⟩:=hex
     have hlt:=Un hg ha
     exact zfM hg hc d (v :: vs) (by simp;omega) (.cons (by omega) hv hu ha h)
def inE (g:Gr) (vs:List Nat) (e:Nat):Bool:=vs.contains (g.2.getD e (0,0)).1.toNat && vs.contains (g.2.getD e (0,0)).2.toNat
def nE (g:Gr) (vs:List Nat):Nat:=xC (inE g vs) g.2.length
theorem NC {v:Nat} {vs:List Nat} {e:Nat} (h:inE g vs e=true):inE g (v :: vs) e=true:=by
 unfold inE at h ⊢
 rw [zp,xe,xe] at h ⊢
 exact ⟨List.mem_cons_of_mem _ h.1,List.mem_cons_of_mem _ h.2⟩
theorem MN {u v:Nat} {vs:List Nat} {e:Nat} (hv:v∉vs) (hu:u∈vs) (hj:uY g u v e=true):inE g vs e=false∧inE g (v :: vs) e=true:=by
 unfold inE
 rcases uv.1 hj with ⟨h1,h2⟩ | ⟨h1,h2⟩
 · rw [h1,h2,z8,z8]
   constructor
   · rw [Bool.and_eq_false_iff];right
     cases e:vs.contains v with
     | false=>rfl
     | true=>exact absurd (xe.1 e) hv
   · rw [zp,xe,xe]
     exact ⟨List.mem_cons_of_mem _ hu,Y7⟩
 · rw [h1,h2,z8,z8]
   constructor
   · rw [Bool.and_eq_false_iff];left
     cases e:vs.contains v with
     | false=>rfl
     | true=>exact absurd (xe.1 e) hv
   · rw [zp,xe,xe]
     exact ⟨Y7,List.mem_cons_of_mem _ hu⟩
theorem zok {vs:List Nat} (h:Att g vs):vs.length≤nE g vs + 1:=by
 induction h with
 | one v hv=>simp
 | @cons v u vs _ h2 h3 h4 h5 ih=>
   obtain ⟨e,he,hj⟩:=xN.1 h4
   obtain ⟨e1,e2⟩:=MN h2 h3 hj
   have:=Wk (p:=inE g vs) (q:=inE g (v :: vs)) (n:=g.2.length) (fun j _ hj=>NC hj) ⟨e,he,e1,e2⟩
   unfold nE at ih ⊢
   simp only [ZK];omega
theorem zk0 {v:Nat} {vs:List Nat} (h2:v∉vs) (h:Att g vs) (hE:nE g (v :: vs)≤vs.length) {u w:Nat} (hu:u∈vs) (hw:w∈vs) (au:adj g u v=true) (aw:adj g w v=true):u=w:=by
 refine ZA fun hne=>?_
 obtain ⟨e,he,hj⟩:=xN.1 au
 obtain ⟨e',he',hj'⟩:=xN.1 aw
 have hee:e'≠e:=by
  rintro rfl
  have hvu:v≠u:=fun e=>h2 (e ▸ hu)
  have hvw:v≠w:=fun e=>h2 (e ▸ hw)
  rcases uv.1 hj with ⟨a1,a2⟩ | ⟨a1,a2⟩ <;> rcases uv.1 hj' with ⟨b1,b2⟩ | ⟨b1,b2⟩ <;> omega
 obtain ⟨p1,p2⟩:=MN h2 hu hj
 obtain ⟨q1,q2⟩:=MN h2 hw hj'
 have c1:=JH (p:=inE g vs) p1 he
 have c2:=JH (p:=fun j=>inE g vs j || j == e) (x:=e') (by
  have:(e' == e)=false:=by simpa using hee
  rw [q1,this];rfl) he'
 have c3:=K9 (p:=fun j=>(inE g vs j || j == e) || j == e') (q:=inE g (v :: vs)) (n:=g.2.length) fun j _ hj=>by
  simp only [y8,ym] at hj
  rcases hj with (hj | rfl) | rfl
  · exact NC hj
  · exact p2
  · exact q2
 have:=zok h
 unfold nE at hE this
 omega
theorem zkt (hg:y0 g=true) {B:Nat→Nat→Bool} {vs:List Nat} (h:Att g vs):nE g vs + 1≤vs.length→(∀ y a b,a∈vs→b∈vs→B a y=true→B b y=true→xw g (fun i=>decide (i∈vs) && B i y) a b=true)→Rip (vs.map B):=by
 induction h with
 | one v hv=>exact fun _ _=>.one _
 | @cons v u vs hv h2 hu ha h ih=>
   intro hE hc
   have hE1:nE g (v :: vs)≤vs.length:=by simp only [ZK] at hE;omega
   have uniq:∀ w,w∈vs→adj g w v=true→w=u:=fun w hw aw=>zk0 h2 h hE1 hw hu aw ha
   have hE2:nE g vs + 1≤vs.length:=by
    obtain ⟨e,he,hj⟩:=xN.1 ha
    obtain ⟨e1,e2⟩:=MN h2 hu hj
    have:=Wk (p:=inE g vs) (q:=inE g (v :: vs)) (n:=g.2.length) (fun j _ hj=>NC hj) ⟨e,he,e1,e2⟩
    unfold nE at hE1 ⊢
    omega
   refine .cons (b:=B u) (yX.2 ⟨u,hu,rfl⟩) (fun y hy hex=>?_) (ih hE2 fun y a b hav hbv ba bb=>?_)
   · obtain ⟨c,hcm,cy⟩:=hex
     obtain ⟨w,hw,rfl⟩:=yX.1 hcm
     refine ZA fun hno=>?_
     have:=vx (C:=fun j=>j == v) (by simp) (fun a j haa hj hadj=>by
      have haa:a=v:=by simpa using haa
      subst haa
      rw [zp,ya] at hj
      have hne:=(Un hg hadj).2.2
      rcases yf.1 hj.1 with e | hjm
      · exact absurd e.symm hne
      · have:=uniq j hjm (by rw [Xm];exact hadj)
        subst this;exact absurd hj.2 hno) (hc y v w Y7 (List.mem_cons_of_mem _ hw) hy cy)
     have:w=v:=by simpa using this
     subst this;exact h2 hw
   · have hcv:=hc y a b (List.mem_cons_of_mem _ hav) (List.mem_cons_of_mem _ hbv) ba bb
     have hav':a≠v:=fun e=>h2 (e ▸ hav)
     have hbv':b≠v:=fun e=>h2 (e ▸ hbv)
     have hSa:(fun i=>decide (i∈vs) && B i y) a=true:=by
      show (decide (a∈vs) && B a y)=true
      rw [zw hav,ba];rfl
     have:=vx (C:=fun j=>if j=v then xw g (fun i=>decide (i∈vs) && B i y) a u else xw g (fun i=>decide (i∈vs) && B i y) a j) (by
      show (if a=v then _ else _)=true
      rw [zy hav'];exact xh) (fun i j hi hj hadj=>by
      rw [zp,ya] at hj
      have hij:=(Un hg hadj).2.2
      by_cases ej:j=v
      · subst ej
        rw [if_pos rfl]
        rw [zy hij] at hi
        have hin:=Jh hSa hi
        rw [zp,ya] at hin
        rw [uniq i hin.1 hadj] at hi
        exact hi
      · rw [zy ej]
        have hjm:j∈vs:=by
         rcases yf.1 hj.1 with e | h
         · exact absurd e ej
         · exact h
        by_cases ei:i=v
        · subst ei
          rw [if_pos rfl] at hi
          rw [uniq j hjm (by rw [Xm];exact hadj)];exact hi
        · rw [zy ei] at hi
          exact xj hg (Ut h a hav) hSa hi (by show (decide (j∈vs) && B j y)=true;rw [zw hjm,hj.2];rfl) hadj) hcv
     rw [zy hbv'] at this
     exact this
end
section
variable {g:Gr} {d:DC}
theorem zfY {b:List (List Int)}:∀ k i,i < k→((b.getD i []).length:Int)≤Jc b k
 | k + 1,i,h=>by
   rw [WC]
   by_cases e:i=k
   · subst e;omega
   · have:=zfY (b:=b) k i (by omega);omega
theorem MH {b:List (List Int)}:∀ k,0≤Jc b k
 | 0=>Int.le_refl _
 | k + 1=>by rw [WC];have:=MH (b:=b) k;omega
theorem zqq {T:Nat→Int} (hg:y0 g=true) (hT:Lw g.1.toNat (elC g) (-1) T) (h:dcB g d=true):T 0≤Jc d.1 d.1.length - 1:=by
 have h8:=yE hg
 unfold dcB at h
 simp only [zp,ya,ym] at h
 obtain ⟨⟨⟨⟨⟨⟨h1,ht⟩,h3⟩,h4⟩,h5⟩,h6⟩,h7⟩:=h
 have hk:(xl d).1.toNat=d.1.length:=by simp
 have hcn:∀ p:Nat→Bool,xC p (xl d).1.toNat≤d.1.length:=fun p=>by rw [hk];exact ur
 have hconn:=(zan ht h4 (hcn _)).2
 obtain ⟨vs,hv,hall⟩:=zfM ht (fun x y hx hy=>hconn x y hx hy rfl rfl) (d.1.length - 1) [0] (by simp;omega) (.one 0 (by rw [hk];omega))
 have hlen:vs.length=d.1.length:=by
  have a1:=KP (QY hv) (N:=d.1.length) fun x hx=>by have:=Ut hv x hx;rw [hk] at this;exact this
  have a2:=(UY d.1.length (vs.map fun x:Nat=>(x:Int)) fun j hj=>yX.2 ⟨j,hall j (by rw [hk];exact hj),rfl⟩).1
  rw [uz] at a2;omega
 have hE:nE (xl d) vs + 1≤vs.length:=by
  have:nE (xl d) vs≤d.2.length:=ur
  omega
 have hnod:=yV.1 h6
 have hrip:=zkt ht (B:=fun i=>bq (d.1.getD i [])) hv hE (fun y a b ha hb ba bb=>by
  have hyl:y < g.1.toNat:=by
   have:=Jj (yV.1 h5 a (by have:=Ut hv a ha;omega)) y (of_decide_eq_true ba)
   omega
  have hp:=hnod y hyl
  unfold MB at hp
  have hpc:=(zan ht (ym.1 hp) (hcn _)).2 a b (Ut hv a ha) (Ut hv b hb) ba bb
  have hSa:(fun i=>decide (i∈vs) && bq (d.1.getD i []) y) a=true:=by
   show (decide (a∈vs) && bq (d.1.getD a []) y)=true
   rw [zw ha,ba];rfl
  refine vx (C:=xw (xl d) (fun i=>decide (i∈vs) && bq (d.1.getD i []) y) a) xh (fun i j hi hj hadj=>?_) hpc
  have hlt:=Un ht hadj
  have hj:bq (d.1.getD j []) y=true:=hj
  exact xj ht (Ut hv a ha) hSa hi (by show (decide (j∈vs) && bq (d.1.getD j []) y)=true;rw [zw (hall j (by omega)),hj];rfl) hadj)
 have hw0:=MH (b:=d.1) d.1.length
 refine zoP hg hT (by omega) _ _ 0 (xF _) (Zg _) hrip (fun y hy _=>?_) (fun c hc y cy=>?_) (fun x y hx hy hxy _ _ hvia=>?_) fun c hc=>?_
 · have hp:=hnod y hy
   unfold MB at hp
   obtain ⟨i,hi,hb⟩:=(zan ht (ym.1 hp) (hcn _)).1
   exact ⟨_,yX.2 ⟨i,hall i hi,rfl⟩,hb⟩
 · obtain ⟨i,hi,rfl⟩:=yX.1 hc
   have:=Jj (yV.1 h5 i (by have:=Ut hv i hi;omega)) y (of_decide_eq_true cy)
   exact ⟨Za _,by omega⟩
 · obtain ⟨z,hz,ha⟩:=(uZ hg hx).1 hvia
   have hzx:z=x:=by
    have:=Jh (by unfold wth;simp) hz
    unfold wth at this
    simpa using this
   subst hzx
   obtain ⟨e,he,hj⟩:=xN.1 ha
   obtain ⟨i,hi,hb⟩:=xN.1 (yV.1 h7 e he)
   rw [zp] at hb
   refine ⟨_,yX.2 ⟨i,hall i (by rw [hk];exact hi),rfl⟩,?_⟩
   rcases uv.1 hj with ⟨j1,j2⟩ | ⟨j1,j2⟩
   · rw [j1,j2] at hb;exact hb
   · rw [j1,j2] at hb;exact ⟨hb.2,hb.1⟩
 · obtain ⟨i,hi,rfl⟩:=yX.1 hc
   have hil:i < d.1.length:=by have:=Ut hv i hi;omega
   have hset:=zd9 (yV.1 h5 i hil)
   have:=congrArg List.length hset
   rw [xL] at this
   have h9:=zfY (b:=d.1) d.1.length i hil
   show (xC (bq (d.1.getD i [])) g.1.toNat:Int)≤_
   omega
end
end Go.Zq
