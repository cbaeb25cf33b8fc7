/- Plain mathematics (part 3). Conditions: stated in each theorem. -/
import Derived.Test.YtelahampjnaimaeM2
import Derived.Test.YtelahampjnaimaeM1
set_option linter.unusedVariables false
set_option linter.unusedSimpArgs false
namespace Go.Zq
theorem uv {g:Gr} {a b i:Nat}:uY g a b i=true↔((g.2.getD i (0,0)).1=a∧(g.2.getD i (0,0)).2=b)∨((g.2.getD i (0,0)).1=b∧(g.2.getD i (0,0)).2=a):=by
 unfold uY
 simp only [y8,zp,ym]
structure zcK (T:Gr) (p:Nat→Bool) (x:Nat) (seen:List Int):Prop where
 nd:seen.Nodup
 inn:∀ y∈seen,∃ j:Nat,y=j∧j < T.1.toNat∧xw T p x j=true
 root:(x:Int)∈seen
def zit (T:Gr) (p:Nat→Bool) (seen:List Int) (m:Nat) (y:Int):Prop:=∀ i,i < m→∀ b:Nat,p b=true→uY T y.toNat b i=true→(b:Int)∈seen
theorem UR {T:Gr} {p:Nat→Bool} {x:Nat} {seen:List Int} (hT:y0 T=true) (h:zcK T p x seen):seen.length≤8:=by
 have h8:=yE hT
 have:=QC T.1.toNat seen h.nd (fun y hy=>by obtain ⟨j,rfl,h1,_⟩:=h.inn y hy;omega)
 omega
theorem zg4 {F:Nat} {T:Gr} {p:Nat→Bool} {x k:Nat} {seen:List Int} {c:List Int→Int→Option Bool} (hT:y0 T=true) (hF:20≤F) (hG:T.2.length < F) (hs:Sm T.2.length) (hx:x < T.1.toNat) (hp:p x=true) (hk:k < seen.length) (hS:zcK T p x seen) :
    ∃ ext,zcK T p x (seen++ext)∧zit T p (seen++ext) T.2.length (seen.getD k 0)∧xE F T.2 (yn p T.1.toNat) (k:Int) c F seen 0=c (seen++ext) ((k + 1:Nat):Int):=by
 have h8:=yE hT
 have hok:=(yV.1 (by unfold y0 at hT;simp only [zp] at hT;exact hT.2):∀ i,i < T.2.length→okE T.1 T.2 i=true)
 obtain ⟨y,hy,hyn,hyc⟩:=hS.inn _ (vS (d:=0) hk)
 obtain ⟨s,⟨ext,rfl,h1,h2⟩,h3⟩:=Ui (L:=fun k2 i s=>xE F T.2 (yn p T.1.toNat) (k:Int) c k2 s i) (n:=T.2.length) (fun i s=>∃ ext,s=seen++ext∧zcK T p x s∧zit T p s i (seen.getD k 0)) (fin:=fun s=>c s ((k + 1:Nat):Int)) (by
  rintro k2 i s hi ⟨ext,rfl,hS2,hC⟩
  have hlen:=UR hT hS2
  have hks:k < (seen++ext).length:=by rw [uc];omega
  have hget:(seen++ext).getD k 0=(y:Int):=by
   rw [zU,W3 hk,← zU,hy]
  have hoki:=hok i hi
  unfold okE at hoki
  simp only [zp,ya] at hoki
  obtain ⟨⟨⟨o1,o2⟩,o3⟩,_⟩:=hoki
  obtain ⟨u,v,hu,hv⟩:∃ u v:Nat,(T.2.getD i (0,0)).1=u∧(T.2.getD i (0,0)).2=v:=⟨(T.2.getD i (0,0)).1.toNat,(T.2.getD i (0,0)).2.toNat,by omega,by omega⟩
  rw [hu] at o1 o2
  rw [hv] at o2 o3
  have hsame:∀ s',s'=seen++ext→(∀ b:Nat,p b=true→uY T y b i=true→(b:Int)∈s')→∃ ext',s'=seen++ext'∧zcK T p x s'∧zit T p s' (i + 1) (seen.getD k 0):=by
   rintro s' rfl h
   refine ⟨ext,rfl,hS2,?_⟩
   intro i' hi' b hb hj
   rw [hy,z8] at hj
   by_cases e:i'=i
   · subst e;exact h b hb hj
   · exact hC i' (by omega) b hb (by rw [hy,z8];exact hj)
  simp only [xE,YA,ZP,YK]
  rw [zw (show (i:Int) < (T.2.length:Int) by omega),zq,z9 (d:=(0,0)) hi,ze,ze,z9 (d:=0) hks,hget,yw hi hs]
  simp only [ze]
  rw [hu,hv]
  have add:∀ b:Nat,b < T.1.toNat→uY T y b i=true→(∀ b':Nat,uY T y b' i=true→b'=b) →
      ∃ s',(∃ ext',s'=seen++ext'∧zcK T p x s'∧zit T p s' (i + 1) (seen.getD k 0)) ∧
       (((vF F (yn p T.1.toNat) (b:Int)).bind fun r_179=>bif r_179 then (vF F (seen++ext) (b:Int)).bind fun r_180=>bif !r_180 then (vh (seen++ext) [(b:Int)]).bind fun ap=>xE F T.2 (yn p T.1.toNat) (k:Int) c k2 ap ((i + 1:Nat):Int) else xE F T.2 (yn p T.1.toNat) (k:Int) c k2 (seen++ext) ((i + 1:Nat):Int)
         else xE F T.2 (yn p T.1.toNat) (k:Int) c k2 (seen++ext) ((i + 1:Nat):Int))=xE F T.2 (yn p T.1.toNat) (k:Int) c k2 s' ((i + 1:Nat):Int)):=by
   intro b hb hj huniq
   rw [Kj (by omega) hb (by omega),ze]
   cases hpb:p b with
   | false=>
     refine ⟨seen++ext,hsame _ rfl (fun b' hb' hj'=>?_),by rw [zo]⟩
     rw [huniq b' hj',hpb] at hb';cases hb'
   | true=>
     rw [zq,W8 (by omega) (by unfold Sm;omega),ze]
     by_cases hm:(b:Int)∈seen++ext
     · refine ⟨seen++ext,hsame _ rfl (fun b' hb' hj'=>?_),by rw [zw hm,yS,zo]⟩
       rw [huniq b' hj'];exact hm
     · refine ⟨seen++ext++[(b:Int)],⟨ext++[(b:Int)],by rw [WF],⟨?_,?_,?_⟩,?_⟩,?_⟩
       · rw [List.nodup_append]
         refine ⟨hS2.nd,by simp,?_⟩
         intro z hz w hw e
         simp only [xo] at hw
         subst hw;subst e;exact hm hz
       · intro z hz
         rw [zO] at hz
         rcases hz with hz | hz
         · exact hS2.inn z hz
         · simp only [xo] at hz
           exact ⟨b,hz,hb,xj hT hx hp hyc hpb (xN.2 ⟨i,hi,hj⟩)⟩
       · rw [zO];exact .inl hS2.root
       · intro i' hi' b' hb' hj'
         rw [hy,z8] at hj'
         by_cases e:i'=i
         · subst e;rw [huniq b' hj'];simp
         · rw [zO];exact .inl (hC i' (by omega) b' hb' (by rw [hy,z8];exact hj'))
       · rw [zI hm,Ym,zq,YJ (by omega),ze]
  by_cases hvy:v=y
  · have hne:¬ u=y:=by omega
    subst hvy
    obtain ⟨s',hs',he⟩:=add u (by omega) (uv.2 (.inr ⟨hu,hv⟩)) (by
     intro b' hb'
     rcases uv.1 hb' with ⟨a1,a2⟩ | ⟨a1,a2⟩
     · rw [hu] at a1;omega
     · rw [hu] at a1;omega)
    refine ⟨s',hs',?_⟩
    rw [show ((v:Int) == (v:Int))=true by simp,zq]
    exact he
  · have hvb:((v:Int) == (y:Int))=false:=by rw [wv];omega
    rw [hvb,zo]
    by_cases huy:u=y
    · subst huy
      obtain ⟨s',hs',he⟩:=add v (by omega) (uv.2 (.inl ⟨hu,hv⟩)) (by
       intro b' hb'
       rcases uv.1 hb' with ⟨a1,a2⟩ | ⟨a1,a2⟩
       · rw [hv] at a2;omega
       · rw [hv] at a2;omega)
      refine ⟨s',hs',?_⟩
      rw [show ((u:Int) == (u:Int))=true by simp,zq]
      exact he
    · have hub:((u:Int) == (y:Int))=false:=by rw [wv];omega
      refine ⟨seen++ext,hsame _ rfl (fun b' hb' hj'=>?_),by rw [hub,zo,zo]⟩
      rcases uv.1 hj' with ⟨a1,a2⟩ | ⟨a1,a2⟩
      · rw [hu] at a1;omega
      · rw [hv] at a2;omega) (by
  rintro k2 s ⟨ext,rfl,hS2,hC⟩
  have hlen:=UR hT hS2
  rw [uc] at hlen
  simp only [xE]
  rw [zI (show ¬ (T.2.length:Int) < (T.2.length:Int) by omega),zo,yw hk (by unfold Sm;omega)]) F seen hG ⟨[],by simp,hS,fun i hi=>absurd hi (by omega)⟩
 exact ⟨ext,h1,h2,h3⟩
theorem zdC {F:Nat} {T:Gr} {p:Nat→Bool} {x:Nat} (hT:y0 T=true) (hF:20≤F) (hG:T.2.length < F) (hs:Sm T.2.length) (hx:x < T.1.toNat) (hp:p x=true) :
    ∀ (d fu k:Nat) (seen:List Int),k + d=9→d < fu→k≤seen.length→zcK T p x seen→(∀ t,t < k→zit T p seen T.2.length (seen.getD t 0)) →
     ua F T.2 (yn p T.1.toNat) fu seen (k:Int)=some ((xC (xw T p x) T.1.toNat:Int) == (yn p T.1.toNat).length):=by
 intro d
 induction d with
 | zero=>
   intro fu k seen hk hd hl hS hC
   have:=UR hT hS
   omega
 | succ d ih=>
   intro fu k seen hk hd hl hS hC
   obtain ⟨fu,rfl⟩:∃ f,fu=f + 1:=⟨fu - 1,by omega⟩
   simp only [ua]
   by_cases hlt:k < seen.length
   · obtain ⟨ext,h1,h2,h3⟩:=zg4 (c:=ua F T.2 (yn p T.1.toNat) fu) hT hF hG hs hx hp hlt hS
     rw [zw (show (k:Int) < (seen.length:Int) by omega),zq,h3]
     refine ih fu (k + 1) (seen++ext) (by omega) (by omega) (by rw [uc];omega) h1 ?_
     intro t ht
     have hget:(seen++ext).getD t 0=seen.getD t 0:=by
      rw [zU,W3 (by omega),← zU]
     rw [hget]
     by_cases e:t=k
     · subst e;exact h2
     · intro i hi b hb hj
       rw [zO]
       exact .inl (hC t (by omega) i hi b hb hj)
   · obtain rfl:k=seen.length:=by omega
     rw [zI (show ¬ (seen.length:Int) < (seen.length:Int) by omega),zo]
     have hcard:=LZ T.1.toNat seen hS.nd (fun y hy=>by obtain ⟨j,rfl,h1,_⟩:=hS.inn y hy;omega)
     have hall:∀ j,j < T.1.toNat→decide ((j:Int)∈seen)=xw T p x j:=by
      intro j _
      rw [yJ,ya]
      constructor
      · intro h
        obtain ⟨j',e,_,h2⟩:=hS.inn _ h
        obtain rfl:j=j':=by omega
        exact h2
      · intro h
        refine of_decide_eq_true (vx (C:=fun j=>decide ((j:Int)∈seen)) (zw hS.root) ?_ h)
        intro y b hy hb ha
        have hy':=of_decide_eq_true hy
        obtain ⟨t,ht,e⟩:=Zk.1 hy'
        have:=hC t ht
        rw [zU,yW ht,y3,e] at this
        obtain ⟨i,hi,hj⟩:=xN.1 ha
        exact zw (this i hi b hb (by rw [z8];exact hj))
     rw [Yf hall] at hcard
     rw [hcard]
theorem zhE {T:Gr} {p:Nat→Bool} {x:Nat} (hT:y0 T=true) (hf:ZZ p T.1.toNat=some x):((prt T T.1.toNat p).length == 1)=(xC (xw T p x) T.1.toNat == xC p T.1.toNat):=by
 obtain ⟨hx,hpx,_⟩:=Z9 hf
 obtain ⟨n,hn⟩:∃ n,T.1.toNat=n + 1:=⟨T.1.toNat - 1,by omega⟩
 have e1:prt T T.1.toNat p=mkm (xw T p x) T.1.toNat :: prt T n (fun j=>p j && !xw T p x j):=by
  conv=>lhs;rw [hn]
  simp only [prt,hf]
 rw [e1,ZK]
 have hsub:∀ j,j < T.1.toNat→xw T p x j=true→p j=true:=fun j _ h=>Jh hpx h
 have hiff:(prt T n (fun j=>p j && !xw T p x j)).length=0↔ZZ (fun j=>p j && !xw T p x j) T.1.toNat=none:=by
  cases n with
  | zero=>
    simp only [prt,List.length_nil,true_iff]
    rw [vv]
    intro j hj
    obtain rfl:j=x:=by omega
    rw [xh];simp
  | succ n=>
    cases hq:ZZ (fun j=>p j && !xw T p x j) T.1.toNat with
    | none=>simp [prt,hq]
    | some z=>simp [prt,hq]
 rw [yJ,ym,ym]
 constructor
 · intro h
   have h0:=vv.1 (hiff.1 (by omega))
   refine Yf fun j hj=>?_
   have:=h0 j hj
   cases hp:p j with
   | false=>
     cases hc:xw T p x j with
     | false=>rfl
     | true=>rw [hsub j hj hc] at hp;cases hp
   | true=>
     rw [hp,z6] at this
     simpa using this
 · intro h
   have:(prt T n (fun j=>p j && !xw T p x j)).length=0:=by
    refine hiff.2 (vv.2 fun j hj=>?_)
    cases hp:p j with
    | false=>rfl
    | true=>
      cases hc:xw T p x j with
      | true=>rfl
      | false=>
        have:=Wk (p:=xw T p x) (q:=p) (n:=T.1.toNat) hsub ⟨j,hj,hc,hp⟩
        omega
   omega
theorem QR {F:Nat} {T:Gr} {p:Nat→Bool} (hT:y0 T=true) (hF:20≤F) (hG:T.2.length < F) (hs:Sm T.2.length) :
    Zv F T.2 (yn p T.1.toNat)=some ((xC p T.1.toNat == 0) || ((prt T T.1.toNat p).length == 1)):=by
 have h8:=yE hT
 unfold Zv
 rw [xL]
 by_cases h0:xC p T.1.toNat=0
 · rw [h0];rfl
 · have e0:((xC p T.1.toNat:Int) == 0)=false:=by rw [wv];omega
   have e1:(xC p T.1.toNat == 0)=false:=by simpa using h0
   rw [e0,zo,e1,ZO]
   have hl:0 < (yn p T.1.toNat).length:=by rw [xL];omega
   cases hf:ZZ p T.1.toNat with
   | none=>
     have:=vv.1 hf
     exfalso;apply h0
     rw [Yf (q:=fun _=>false) this]
     unfold xC
     rw [List.countP_eq_zero];simp
   | some x=>
     obtain ⟨hx,hpx,hmin⟩:=Z9 hf
     have hidx:idx (yn p T.1.toNat) 0=some (x:Int):=by
      have:=z9 (d:=0) hl
      rw [show ((0:Nat):Int)=0 from rfl] at this
      rw [this]
      congr 1
      obtain ⟨z,hz,hzn,hzp⟩:=Ks hl
      rw [hz]
      have hzx:¬ z < x:=fun h=>by rw [hmin z h] at hzp;cases hzp
      have hxz:¬ x < z:=by
       intro h
       have hm:(x:Int)∈yn p T.1.toNat:=Zd.2 ⟨x,rfl,hx,hpx⟩
       obtain ⟨t,ht,e⟩:=Zk.1 hm
       rw [zU,yW hl,y3] at hz
       have hs:=Ky (p:=p) (n:=T.1.toNat)
       unfold Srt at hs
       rw [Lc] at hs
       by_cases e0:t=0
       · subst e0;rw [e] at hz;omega
       · have:=hs 0 t hl ht (by omega)
         rw [hz,e] at this;omega
      omega
     rw [hidx,ze]
     have:=zdC (F:=F) hT hF hG hs hx hpx 9 F 0 [(x:Int)] (by omega) (by omega) (by omega) ⟨by simp,fun y hy=>by
      simp only [xo] at hy
      exact ⟨x,hy,hx,xh⟩,by simp⟩ (fun t ht=>absurd ht (by omega))
     rw [show ((0:Nat):Int)=0 from rfl] at this
     rw [this,zhE hT hf,xL]
     congr 1
     exact (by rw [yJ,ym,ym];omega)
def wth (m x:Nat) (j:Nat):Bool:=m.testBit j || j == x
def Zi (g:Gr) (m x:Nat) (j:Nat):Bool:=(!m.testBit j && !(j == x)) && ZU (fun y=>xw g (wth m x) x y && adj g y j) g.1.toNat
def elC (g:Gr) (m x:Nat):Int:=(xC (Zi g m x) g.1.toNat:Int)
theorem zbB {F x:Nat} {g:Gr} (hg:y0 g=true) (hF:20≤F) (hG:g.2.length < F) (hs:Sm g.2.length):uT F g (x:Int)=some (yn (adj g x) g.1.toNat):=by
 have h8:=yE hg
 unfold uT
 refine ZD (L:=fun k i s=>xZ F (x:Int) g k s i) (n:=g.1.toNat) (fun i s=>s=yn (adj g x) i) ?_ ?_ F _ (by omega) rfl
 · intro k i s hi hI
   subst hI
   refine ⟨_,rfl,?_⟩
   have hc:=ur (p:=adj g x) (n:=i)
   simp only [xZ,Zl]
   rw [zw (show (i:Int) < g.1 by omega),zq,zfN hG hs,ze,yw hi (by unfold Sm;omega),XI]
   cases adj g x i with
   | true=>rw [zq,YJ (by rw [xL];omega),ze];rfl
   | false=>rw [zo];simp
 · intro k s hI
   subst hI
   simp only [xZ]
   rw [zI (show ¬ (g.1.toNat:Int) < g.1 by omega),zo]
structure Lat (g:Gr) (m x:Nat) (q:Nat→Bool) (seen:List Int):Prop where
 sn:zcK g (wth m x) x seen
 qin:∀ j,q j=true→Zi g m x j=true
def Fnd (m x:Nat) (q:Nat→Bool) (seen:List Int) (ns:List Int):Prop:=∀ z:Nat,(z:Int)∈ns→(wth m x z=true→(z:Int)∈seen)∧(wth m x z=false→q z=true)
theorem zhK {F:Nat} {g:Gr} {m x k:Nat} {q:Nat→Bool} {seen:List Int} {c:List Int→List Int→Int→Option (List Int)} (hg:y0 g=true) (hF:20≤F) (hm:m < 2 ^ g.1.toNat) (hx:x < g.1.toNat) (hk:k < seen.length) (hS:Lat g m x q seen) {y:Nat} (hy:seen.getD k 0=(y:Int)) :
    ∃ q' ext,Lat g m x q' (seen++ext)∧Fnd m x q' (seen++ext) (yn (adj g y) g.1.toNat)∧(∀ j,q j=true→q' j=true) ∧
     xA F (yn m.testBit g.1.toNat) g (k:Int) (yn (adj g y) g.1.toNat) c F (yn q g.1.toNat) seen 0=c (yn q' g.1.toNat) (seen++ext) ((k + 1:Nat):Int):=by
 have h8:=yE hg
 have hn8:(yn (adj g y) g.1.toNat).length≤8:=by rw [xL];exact Zf ur (by omega)
 obtain ⟨y',hy',hyn,hyc⟩:=hS.sn.inn _ (vS (d:=0) hk)
 rw [hy] at hy'
 obtain rfl:y=y':=by omega
 obtain ⟨s,⟨q',ext,hs,h1,h2,h3⟩,h4⟩:=Ui (L:=fun k2 i (s:List Int×List Int)=>xA F (yn m.testBit g.1.toNat) g (k:Int) (yn (adj g y) g.1.toNat) c k2 s.1 s.2 i) (n:=(yn (adj g y) g.1.toNat).length)
  (fun i s=>∃ q' ext,s=(yn q' g.1.toNat,seen++ext)∧Lat g m x q' (seen++ext)∧Fnd m x q' (seen++ext) ((yn (adj g y) g.1.toNat).take i)∧(∀ j,q j=true→q' j=true)) (fin:=fun s=>c s.1 s.2 ((k + 1:Nat):Int)) (by
    rintro k2 i s hi ⟨q',ext,rfl,hL,hFn,hq⟩
    have hlen:=UR hg hL.sn
    obtain ⟨z,hz,hzn,hza⟩:=Ks hi
    have htake:(yn (adj g y) g.1.toNat).take (i + 1)=(yn (adj g y) g.1.toNat).take i++[(z:Int)]:=by
     rw [List.take_add_one,yW hi]
     rw [zU,yW hi,y3] at hz
     rw [hz];rfl
    have hstep:∀ (q2:Nat→Bool) (s2:List Int),(∀ j,q' j=true→q2 j=true)→(∀ w,w∈seen++ext→w∈s2)→(wth m x z=true→(z:Int)∈s2)→(wth m x z=false→q2 z=true)→Fnd m x q2 s2 ((yn (adj g y) g.1.toNat).take (i + 1)):=by
     intro q2 s2 a1 a2 a3 a4 w hw
     rw [htake,zO] at hw
     rcases hw with hw | hw
     · exact ⟨fun h=>a2 _ ((hFn w hw).1 h),fun h=>a1 _ ((hFn w hw).2 h)⟩
     · simp only [xo] at hw
       obtain rfl:w=z:=by omega
       exact ⟨a3,a4⟩
    simp only [xA,Yo]
    rw [zw (show (i:Int) < ((yn (adj g y) g.1.toNat).length:Int) by omega),zq,z9 (d:=0) hi,hz]
    simp only [ze]
    rw [W8 (by omega) (by unfold Sm;omega),Kj (by omega) hzn (by omega),ziV (by omega) hzn (by omega),yw hi (by unfold Sm;omega)]
    simp only [ze]
    by_cases hm1:(z:Int)∈seen++ext
    · refine ⟨_,⟨q',ext,rfl,hL,hstep q' _ (fun _ h=>h) (fun _ h=>h) (fun _=>hm1) (fun h=>?_),hq⟩,by rw [zw hm1,zq]⟩
      obtain ⟨z',e,_,hc⟩:=hL.sn.inn _ hm1
      obtain rfl:z=z':=by omega
      have:=Jh (p:=wth m x) (show wth m x x=true by unfold wth;simp) hc
      rw [this] at h;cases h
    · rw [zI hm1,zo]
      have hzx:z≠x:=fun e=>hm1 (by rw [e,zO];exact .inl hS.sn.root)
      cases hb:m.testBit z with
      | true=>
        have hw:wth m x z=true:=by unfold wth;rw [hb];rfl
        refine ⟨(yn q' g.1.toNat,seen++ext++[(z:Int)]),⟨q',ext++[(z:Int)],by rw [WF],⟨⟨?_,?_,?_⟩,hL.qin⟩,?_,hq⟩,?_⟩
        · rw [← WF,List.nodup_append]
          refine ⟨hL.sn.nd,by simp,?_⟩
          intro a ha b hb e
          simp only [xo] at hb
          subst hb;subst e;exact hm1 ha
        · intro a ha
          rw [← WF,zO] at ha
          rcases ha with ha | ha
          · exact hL.sn.inn a ha
          · simp only [xo] at ha
            exact ⟨z,ha,hzn,xj hg hx (by unfold wth;simp) hyc hw hza⟩
        · rw [zO];exact .inl hS.sn.root
        · rw [← WF]
          exact hstep q' _ (fun _ h=>h) (fun w h=>by rw [zO];exact .inl h) (fun _=>by simp) (fun h=>by rw [hw] at h;cases h)
        · rw [zq,YJ (by omega),ze]
      | false=>
        have hw:wth m x z=false:=by
         unfold wth
         rw [hb]
         simpa using hzx
        refine ⟨(yn (fun j=>q' j || j == z) g.1.toNat,seen++ext),⟨fun j=>q' j || j == z,ext,rfl,⟨hL.sn,?_⟩,?_,fun j h=>by simp [hq j h]⟩,?_⟩
        · intro j hj
          rw [y8,ym] at hj
          rcases hj with hj | hj
          · exact hL.qin j hj
          · subst hj
            unfold Zi
            rw [hb]
            have:(j == x)=false:=by simpa using hzx
            rw [this]
            simp only [Ym,wT,z6]
            exact xN.2 ⟨y,hyn,by rw [hyc,hza];rfl⟩
        · exact hstep _ _ (fun j h=>by simp [h]) (fun _ h=>h) (fun h=>by rw [hw] at h;cases h) (fun _=>by simp)
        · rw [zo]) (by
    rintro k2 s ⟨q',ext,rfl,hL,hFn,hq⟩
    have hlen:=UR hg hL.sn
    rw [uc] at hlen
    simp only [xA]
    rw [zI (show ¬ ((yn (adj g y) g.1.toNat).length:Int) < ((yn (adj g y) g.1.toNat).length:Int) by omega),zo,yw hk (by unfold Sm;omega)]) F (yn q g.1.toNat,seen) (by omega) ⟨q,[],by simp,by simpa using hS,fun z hz=>by simp at hz,fun _ h=>h⟩
 subst hs
 rw [List.take_length] at h2
 exact ⟨q',ext,h1,h2,h3,h4⟩
theorem zgH {F:Nat} {g:Gr} {m x:Nat} (hg:y0 g=true) (hF:20≤F) (hG:g.2.length < F) (hs:Sm g.2.length) (hm:m < 2 ^ g.1.toNat) (hx:x < g.1.toNat) :
    ∀ (d fu k:Nat) (q:Nat→Bool) (seen:List Int),k + d=9→d < fu→k≤seen.length→Lat g m x q seen→(∀ t,t < k→∀ y:Nat,seen.getD t 0=(y:Int)→Fnd m x q seen (yn (adj g y) g.1.toNat)) →
     wu F (yn m.testBit g.1.toNat) g fu (yn q g.1.toNat) seen (k:Int)=some (yn (Zi g m x) g.1.toNat):=by
 intro d
 induction d with
 | zero=>
   intro fu k q seen hk hd hl hS hC
   have:=UR hg hS.sn
   omega
 | succ d ih=>
   intro fu k q seen hk hd hl hS hC
   obtain ⟨fu,rfl⟩:∃ f,fu=f + 1:=⟨fu - 1,by omega⟩
   simp only [wu]
   by_cases hlt:k < seen.length
   · obtain ⟨y,hy,hyn,hyc⟩:=hS.sn.inn _ (vS (d:=0) hlt)
     obtain ⟨q',ext,h1,h2,h3,h4⟩:=zhK (c:=wu F (yn m.testBit g.1.toNat) g fu) hg hF hm hx hlt hS hy
     rw [zw (show (k:Int) < (seen.length:Int) by omega),zq,z9 (d:=0) hlt,ze,hy,zbB hg hF hG hs,ze,h4]
     refine ih fu (k + 1) q' (seen++ext) (by omega) (by omega) (by rw [uc];omega) h1 ?_
     intro t ht w hw
     have hget:(seen++ext).getD t 0=seen.getD t 0:=by
      rw [zU,W3 (by omega),← zU]
     rw [hget] at hw
     by_cases e:t=k
     · subst e
       rw [hy] at hw
       obtain rfl:y=w:=by omega
       exact h2
     · intro z hz
       have:=hC t (by omega) w hw z hz
       exact ⟨fun h=>by rw [zO];exact .inl (this.1 h),fun h=>h3 _ (this.2 h)⟩
   · obtain rfl:k=seen.length:=by omega
     rw [zI (show ¬ (seen.length:Int) < (seen.length:Int) by omega),zo]
     congr 1
     apply zcP
     intro j hj
     have hxp:wth m x x=true:=by unfold wth;simp
     have hsub:∀ b,xw g (wth m x) x b=true→(b:Int)∈seen:=by
      intro b hb
      refine of_decide_eq_true (vx (C:=fun j=>decide ((j:Int)∈seen)) (zw hS.sn.root) ?_ hb)
      intro y b hy hb ha
      have hy':=of_decide_eq_true hy
      obtain ⟨t,ht,e⟩:=Zk.1 hy'
      have hget:seen.getD t 0=(y:Int):=by rw [zU,yW ht,y3,e]
      have hbn:=(Un hg ha).2.1
      exact zw ((hC t ht y hget b (Zd.2 ⟨b,rfl,by omega,ha⟩)).1 hb)
     cases hq:q j with
     | true=>exact (hS.qin j hq).symm
     | false=>
       cases hl:Zi g m x j with
       | false=>rfl
       | true=>
         exfalso
         unfold Zi at hl
         simp only [zp,yT] at hl
         obtain ⟨⟨l1,l2⟩,l3⟩:=hl
         obtain ⟨y,hyn,hy⟩:=xN.1 l3
         simp only [zp] at hy
         obtain ⟨t,ht,e⟩:=Zk.1 (hsub y hy.1)
         have hget:seen.getD t 0=(y:Int):=by rw [zU,yW ht,y3,e]
         have:=(hC t ht y hget j (Zd.2 ⟨j,rfl,hj,hy.2⟩)).2 (by unfold wth;rw [l1,l2];rfl)
         rw [this] at hq;cases hq
theorem ziC {F:Nat} {g:Gr} {m x:Nat} (hg:y0 g=true) (hF:20≤F) (hG:g.2.length < F) (hs:Sm g.2.length) (hm:m < 2 ^ g.1.toNat) (hx:x < g.1.toNat) :
    uw F g (yn m.testBit g.1.toNat) (x:Int)=some (yn (Zi g m x) g.1.toNat):=by
 unfold uw
 have hnil:([]:List Int)=yn (fun _=>false) g.1.toNat:=by simp [yn]
 have:=zgH (F:=F) hg hF hG hs hm hx 9 F 0 (fun _=>false) [(x:Int)] (by omega) (by omega) (by omega) ⟨⟨by simp,fun y hy=>by
  simp only [xo] at hy
  exact ⟨x,hy,hx,xh⟩,by simp⟩,fun j h=>by cases h⟩ (fun t ht=>absurd ht (by omega))
 rw [← hnil] at this
 exact this
def rdP (g:Gr) (m x:Nat):Nat→Nat→Bool
 | 0=>fun j=>j == x
 | t + 1=>J6 g (rch g (wth m x) x t)
theorem zb6 {g:Gr} {m x:Nat}:∀ t j,(rdP g m x t j && wth m x j)=rch g (wth m x) x t j
 | 0,j=>by
   show ((j == x) && wth m x j)=(j == x)
   unfold wth
   cases (j == x) <;> simp
 | t + 1,j=>by
   show (J6 g (rch g (wth m x) x t) j && wth m x j)=stp g (wth m x) (rch g (wth m x) x t) j
   unfold J6 stp
   have hin:=fun h=>LK (g:=g) (p:=wth m x) (x:=x) (show wth m x x=true by unfold wth;simp) t j h
   cases h1:rch g (wth m x) x t j with
   | true=>rw [hin h1];rfl
   | false=>rw [ZO,ZO,Bool.and_comm]
theorem zlN {F:Nat} {g:Gr} {m x:Nat} (hg:y0 g=true) (hF:20≤F) (hm:m < 2 ^ g.1.toNat) (hx:x < g.1.toNat):vp F ⟨wM g⟩ (m:Int) (x:Int)=some (elC g m x):=by
 have h8:=yE hg
 have h256:=zvb (by omega) hm
 have hxp:wth m x x=true:=by unfold wth;simp
 obtain ⟨T,hT,hst⟩:=NB hg hx hxp
 have hcn:=ur (p:=wth m x) (n:=g.1.toNat)
 have hmx:(ior .i64 (m:Int) ((2 ^ x:Nat):Int))=((mkm (wth m x) g.1.toNat:Nat):Int):=by
  rw [Wv (by omega) (Yt (by omega))]
  congr 1
  refine vT fun j=>?_
  rw [vo,wh]
  unfold wth
  by_cases hj:j < g.1.toNat
  · rw [zw hj,z6]
    congr 1
    rw [yJ,ya,ym];omega
  · rw [zI hj,ux,zI (show ¬ x=j by omega),Yp]
    exact Nat.testBit_lt_two_pow (Yj hm (vG (by decide) (by omega)))
 unfold vp
 rw [um (by omega),ze]
 have hstart:((2 ^ x:Nat):Int)=((mkm (rdP g m x 0) g.1.toNat:Nat):Int):=by
  congr 1
  refine vT fun j=>?_
  rw [wh]
  show decide (x=j)=(decide (j < g.1.toNat) && (j == x))
  by_cases e:j=x
  · subst e;simp [hx]
  · have e1:(j == x)=false:=by simpa using e
    rw [e1,Bool.and_false,zI (by omega)]
 have hend:∀ t,(∀ j,j < g.1.toNat→rdP g m x (t + 1) j=rdP g m x t j)→∀ j,j < g.1.toNat→(rdP g m x t j && !m.testBit j && !(j == x))=Zi g m x j:=by
  intro t he j hj
  have hstab:∀ j,rch g (wth m x) x (t + 1) j=true→rch g (wth m x) x t j=true:=by
   intro j hj
   have hjn:=N1 hg hx _ _ hj
   rw [← zb6,he j hjn,zb6] at hj;exact hj
  have hcomp:∀ j,rch g (wth m x) x t j=xw g (wth m x) x j:=by
   intro j
   rw [yJ]
   constructor
   · intro h
     by_cases hle:t≤g.1.toNat
     · exact X9 h _ hle
     · have:rch g (wth m x) x (g.1.toNat + (t - g.1.toNat)) j=true:=by
        rw [show g.1.toNat + (t - g.1.toNat)=t by omega];exact h
       have h2:=Kc hg hx hxp (s:=t) (by omega) j
       rw [← h2];exact h
   · intro h
     have h3:rch g (wth m x) x (t + g.1.toNat) j=true:=X9 h _ (by omega)
     exact JI hstab _ j h3
  rw [← he j hj]
  show (J6 g (rch g (wth m x) x t) j && !m.testBit j && !(j == x))=Zi g m x j
  unfold J6 Zi
  have hany:ZU (fun y=>rch g (wth m x) x t y && adj g y j) g.1.toNat=ZU (fun y=>xw g (wth m x) x y && adj g y j) g.1.toNat:=KY fun y _=>by rw [hcomp y]
  rw [hany,hcomp j]
  cases hb:m.testBit j with
  | true=>simp
  | false=>
    cases hjx:(j == x) with
    | true=>simp
    | false=>
      have:xw g (wth m x) x j=false:=by
       rw [Bool.eq_false_iff];intro h
       have:=Jh hxp h
       unfold wth at this
       rw [hb,hjx] at this;cases this
      rw [this];simp
 have key:∀ d t k,t + d=T + 1→d < k→wz F (m:Int) (x:Int) ⟨wM g⟩ k ((mkm (rdP g m x t) g.1.toNat:Nat):Int)=some (elC g m x):=by
  intro d
  induction d with
  | zero=>
    intro t k ht hk
    obtain ⟨k,rfl⟩:∃ k',k=k' + 1:=⟨k - 1,by omega⟩
    obtain rfl:t=T + 1:=by omega
    have hsame:∀ j,j < g.1.toNat→rdP g m x (T + 1 + 1) j=rdP g m x (T + 1) j:=by
     intro j _
     have hrr:∀ j,rch g (wth m x) x (T + 1) j=rch g (wth m x) x T j:=fun j=>by
      rw [yJ];exact ⟨hst j,fun h=>X9 h _ (by omega)⟩
     show J6 g (rch g (wth m x) x (T + 1)) j=J6 g (rch g (wth m x) x T) j
     unfold J6
     rw [hrr j]
     congr 1
     exact KY fun y _=>by rw [hrr y]
    simp only [wz]
    rw [um (by omega),ze,hmx,Ub (xB (by omega)) (xB (by omega))]
    have hnext:(mkm (rdP g m x (T + 1)) g.1.toNat &&& mkm (wth m x) g.1.toNat)=mkm (rch g (wth m x) x (T + 1)) g.1.toNat:=by
     refine vT fun j=>?_
     rw [Nat.testBit_and,yA,yA,← zb6]
     cases decide (j < g.1.toNat) <;> simp
    rw [hnext,Ki hg (by omega),ze]
    have heq:((mkm (J6 g (rch g (wth m x) x (T + 1))) g.1.toNat:Nat):Int)=((mkm (rdP g m x (T + 1)) g.1.toNat:Nat):Int):=by
     congr 1
     exact wI fun j hj=>hsame j hj
    rw [heq,ZL,zq,ze]
    obtain ⟨c1,e1,l1,b1⟩:=Zn (xB (p:=rdP g m x (T + 1)) (n:=g.1.toNat) (by omega)) (show m < 9223372036854775808 by omega)
    have hml:=MW (p:=rdP g m x (T + 1)) (n:=g.1.toNat) (by omega)
    obtain ⟨c2,e2,l2,b2⟩:=Zn (a:=c1) (show c1 < 9223372036854775808 by omega) (Yt (j:=x) (by omega))
    rw [e1,e2,za6 (by omega),ze]
    congr 2
    have hc2:c2=mkm (Zi g m x) g.1.toNat:=by
     refine vT fun j=>?_
     rw [b2,b1,yA,wh]
     by_cases hj:j < g.1.toNat
     · rw [zw hj,z6,z6,← hend (T + 1) hsame j hj]
       congr 2
       rw [yJ,ya,ym];omega
     · rw [zI hj];rfl
    rw [hc2,Nx (by omega)]
  | succ d ih=>
    intro t k ht hk
    obtain ⟨k,rfl⟩:∃ k',k=k' + 1:=⟨k - 1,by omega⟩
    simp only [wz]
    rw [um (by omega),ze,hmx,Ub (xB (by omega)) (xB (by omega))]
    have hnext:(mkm (rdP g m x t) g.1.toNat &&& mkm (wth m x) g.1.toNat)=mkm (rch g (wth m x) x t) g.1.toNat:=by
     refine vT fun j=>?_
     rw [Nat.testBit_and,yA,yA,← zb6]
     cases decide (j < g.1.toNat) <;> simp
    rw [hnext,Ki hg (by omega),ze]
    by_cases hE:mkm (J6 g (rch g (wth m x) x t)) g.1.toNat=mkm (rdP g m x t) g.1.toNat
    · have hsame:∀ j,j < g.1.toNat→rdP g m x (t + 1) j=rdP g m x t j:=fun j hj=>zeQ hE j hj
      rw [hE,ZL,zq,ze]
      obtain ⟨c1,e1,l1,b1⟩:=Zn (xB (p:=rdP g m x t) (n:=g.1.toNat) (by omega)) (show m < 9223372036854775808 by omega)
      have hml:=MW (p:=rdP g m x t) (n:=g.1.toNat) (by omega)
      obtain ⟨c2,e2,l2,b2⟩:=Zn (a:=c1) (show c1 < 9223372036854775808 by omega) (Yt (j:=x) (by omega))
      rw [e1,e2,za6 (by omega),ze]
      congr 2
      have hc2:c2=mkm (Zi g m x) g.1.toNat:=by
       refine vT fun j=>?_
       rw [b2,b1,yA,wh]
       by_cases hj:j < g.1.toNat
       · rw [zw hj,z6,z6,← hend t hsame j hj]
         congr 2
         rw [yJ,ya,ym];omega
       · rw [zI hj];rfl
      rw [hc2,Nx (by omega)]
    · have hb:(((mkm (J6 g (rch g (wth m x) x t)) g.1.toNat:Nat):Int) == ((mkm (rdP g m x t) g.1.toNat:Nat):Int))=false:=by
       rw [wv];omega
      rw [hb,zo]
      exact ih (t + 1) k (by omega) (by omega)
 have:=key (T + 1) 0 F (by omega) (by omega)
 rw [hstart]
 exact this
abbrev DC:=List (List Int)×List (Int×Int)
abbrev xl (d:DC):Gr:=((d.1.length:Int),d.2)
def MB (d:DC) (x:Nat):Bool:=(prt (xl d) d.1.length (fun i=>inB d.1 (x:Int) i)).length == 1
def KB (g:Gr) (d:DC) (i:Nat):Bool:=ZU (fun t=>inB d.1 (g.2.getD i (0,0)).1 t && inB d.1 (g.2.getD i (0,0)).2 t) d.1.length
def dcB (g:Gr) (d:DC):Bool:=
 (decide (1≤d.1.length) && y0 (xl d) && (d.2.length + 1 == d.1.length) && ((prt (xl d) d.1.length (fun _=>true)).length == 1)) && wG (fun i=>Uq g.1 (d.1.getD i [])) d.1.length && wG (MB d) g.1.toNat && wG (KB g d) g.2.length
structure Dg (F:Nat) (d:DC):Prop where
 bg:Bg F d.1
 tl:d.2.length≤1048576
theorem zqv {bags:List (List Int)} {l:List Int} {i:Nat} (h:l.length≤2):wG (fun k=>inB bags (l.getD k 0) i) l.length=l.all fun x=>inB bags x i:=by
 match l,h with
 | [],_=>rfl
 | [a],_=>simp [wG]
 | [a,b],_=>simp [wG]
theorem zfC {F:Nat} {d:DC} {l:List Int} (hd:Dg F d) (h8:d.1.length≤8) (hl:l.length≤2):X1 F d l=some (yn (fun i=>l.all fun x=>inB d.1 x i) d.1.length):=by
 have hf:=hd.bg.fuel
 unfold X1
 refine ZD (L:=fun k i s=>uG F l d k s i) (n:=d.1.length) (fun i s=>s=yn (fun i=>l.all fun x=>inB d.1 x i) i) ?_ ?_ F _ (by omega) rfl
 · intro k i s hi hI
   subst hI
   refine ⟨_,rfl,?_⟩
   have hc:=ur (p:=fun i=>l.all fun x=>inB d.1 x i) (n:=i)
   simp only [uG]
   rw [zw (show (i:Int) < (d.1.length:Int) by omega),zq]
   refine ZD (L:=fun k2 t (s:Bool)=>vV F l d (yn (fun i=>l.all fun x=>inB d.1 x i) i) (i:Int) (uG F l d k) k2 s t) (n:=l.length) (fun t s=>s=wG (fun k=>inB d.1 (l.getD k 0) i) t) ?_ ?_ F _ (by omega) rfl
   · intro k2 t s ht hI
     subst hI
     refine ⟨_,rfl,?_⟩
     simp only [vV,X5]
     rw [zw (show (t:Int) < (l.length:Int) by omega),zq,z9 (d:=[]) hi,ze,z9 (d:=0) ht,ze,znF hd.bg hi,ze,yw ht (by unfold Sm;omega)]
     simp only [wG]
     cases wG (fun k=>inB d.1 (l.getD k 0) i) t <;> rfl
   · intro k2 s hI
     subst hI
     simp only [vV,X7]
     rw [zI (show ¬ (l.length:Int) < (l.length:Int) by omega),zo,zqv hl,XI,yw hi (by unfold Sm;omega)]
     cases l.all fun x=>inB d.1 x i with
     | true=>rw [zq,YJ (by rw [xL];omega),ze];rfl
     | false=>rw [zo];simp
 · intro k s hI
   subst hI
   simp only [uG]
   rw [zI (show ¬ (d.1.length:Int) < (d.1.length:Int) by omega),zo]
theorem zed {F n:Nat} (hn:n≤8) (hF:20≤F):Zs F (n:Int)=some (yn (fun _=>true) n):=by
 unfold Zs
 refine ZD (L:=fun k i s=>uj F (n:Int) k s i) (n:=n) (fun i s=>s=yn (fun _=>true) i) ?_ ?_ F _ (by omega) rfl
 · intro k i s hi hI
   subst hI
   refine ⟨_,rfl,?_⟩
   have hc:=ur (p:=fun _=>true) (n:=i)
   simp only [uj]
   rw [zw (show (i:Int) < (n:Int) by omega),zq,YJ (by rw [xL];omega),ze,XI,yw hi (by unfold Sm;omega)]
   rfl
 · intro k s hI
   subst hI
   simp only [uj]
   rw [zI (show ¬ (n:Int) < (n:Int) by omega),zo]
theorem zg6 {n:Nat}:xC (fun _=>true) n=n:=by
 induction n with
 | zero=>rfl
 | succ n ih=>rw [xC,ZH,List.countP_append,← xC,ih];rfl
def trB (d:DC):Bool:=decide (1≤d.1.length) && y0 (xl d) && (d.2.length + 1 == d.1.length) && ((prt (xl d) d.1.length (fun _=>true)).length == 1)
theorem zhl {F:Nat} {g:Gr} {d:DC} (hg:y0 g=true) (hd:Dg F d):XV F g d=some (trB d && wG (fun i=>Uq g.1 (d.1.getD i [])) d.1.length):=by
 have hf:=hd.bg.fuel
 have hl:=hd.bg.len
 have ht:=hd.tl
 unfold XV Xr
 rw [MK,ze]
 by_cases hn:1≤d.1.length∧d.1.length≤8
 · rw [zw (show (1:Int)≤(d.1.length:Int) by omega),zw (show (d.1.length:Int)≤8 by omega),wT,yS,zo]
   have hw:w64 ((d.1.length:Int) - 1)=(d.1.length:Int) - 1:=vP (by omega) (by omega)
   have hne:((d.2.length:Int) != (d.1.length:Int) - 1)=!(d.2.length + 1 == d.1.length):=by
    by_cases h:d.2.length + 1=d.1.length
    · have h1:(d.2.length:Int)=(d.1.length:Int) - 1:=by omega
      rw [h1,h];simp
    · have h1:(d.2.length:Int)≠(d.1.length:Int) - 1:=by omega
      have h2:(d.2.length + 1 == d.1.length)=false:=by simpa using h
      rw [h2];simpa using h1
   rw [hw,hne]
   unfold trB
   rw [zw hn.1,z6]
   cases hlen:(d.2.length + 1 == d.1.length) with
   | false=>simp
   | true=>
     have hlen':d.2.length + 1=d.1.length:=by simpa using hlen
     rw [yS,zo,Bool.and_true]
     rw [vQ (L:=fun k i=>Zx F g d k i) (n:=d.1.length) (p:=fun i=>Uq g.1 (d.1.getD i [])) (bad:=some false) (fin:=some (y0 (xl d) && ((prt (xl d) d.1.length (fun _=>true)).length == 1))) ?_ ?_ F (by omega)]
     · cases wG (fun i=>Uq g.1 (d.1.getD i [])) d.1.length <;> simp
     · intro k i hi
       have h1:=hd.bg.at hi
       simp only [Zx]
       rw [zw (show (i:Int) < (d.1.length:Int) by omega),zq,z9 (d:=[]) hi,ze,zjf hg (by omega) (by unfold Sm;omega),ze,yw hi (by unfold Sm;omega)]
       cases Uq g.1 (d.1.getD i []) <;> rfl
     · intro k
       simp only [Zx]
       rw [zI (show ¬ (d.1.length:Int) < (d.1.length:Int) by omega),zo]
       have hgood:y0 (xl d)=wG (okE (d.1.length:Int) d.2) d.2.length:=by
        unfold y0
        simp only [xl]
        rw [zw (show (0:Int)≤(d.1.length:Int) by omega),zw (show (d.1.length:Int)≤8 by omega)];rfl
       rw [vQ (L:=fun k i=>xI F d k i) (n:=d.2.length) (p:=okE (d.1.length:Int) d.2) (bad:=some false) (fin:=(Zs F (d.1.length:Int)).bind fun r_31=>(Zv F d.2 r_31).bind fun r_32=>some r_32) ?_ ?_ F (by omega)]
       · rw [← hgood]
         cases hT:y0 (xl d) with
         | false=>rfl
         | true=>
           rw [zq,z6,zed (by omega) (by omega),ze]
           have hj:=QR (F:=F) (T:=xl d) (p:=fun _=>true) hT (by omega) (show d.2.length < F by omega) (show Sm d.2.length by unfold Sm;omega)
           simp only [xl,z8] at hj
           rw [hj,ze,zg6]
           have:(d.1.length == 0)=false:=by rw [wv];omega
           rw [this,ZO]
       · intro k i hi
         simp only [xI,uC]
         rw [zw (show (i:Int) < (d.2.length:Int) by omega),zq,z9 (d:=(0,0)) hi,ze,yw hi (by unfold Sm;omega)]
         unfold okE
         by_cases h1:(d.2.getD i (0,0)).1 < 0
         · rw [zw h1,zI (show ¬ 0≤(d.2.getD i (0,0)).1 by omega)];rfl
         · rw [zI h1,zo,zw (show 0≤(d.2.getD i (0,0)).1 by omega),z6]
           by_cases h2:(d.2.getD i (0,0)).1 < (d.2.getD i (0,0)).2
           · rw [zI (show ¬ (d.2.getD i (0,0)).1≥(d.2.getD i (0,0)).2 by omega),zo,zw h2,z6]
             by_cases h3:(d.2.getD i (0,0)).2 < (d.1.length:Int)
             · rw [zI (show ¬ (d.2.getD i (0,0)).2≥(d.1.length:Int) by omega),zo,zw h3,z6]
               by_cases h0:i=0
               · subst h0;rfl
               · rw [zw (show (i:Int) > 0 by omega),zq,JG (by omega) hi (by unfold Sm;omega),z9 (d:=(0,0)) (by omega),ze,Ug,ze]
                 have h0':(i == 0)=false:=by simpa using h0
                 rw [h0',ZO]
                 cases bef (d.2.getD (i - 1) (0,0)) (d.2.getD i (0,0)) <;> rfl
             · rw [zw (show (d.2.getD i (0,0)).2≥(d.1.length:Int) by omega),zI h3];rfl
           · rw [zw (show (d.2.getD i (0,0)).1≥(d.2.getD i (0,0)).2 by omega),zI h2];rfl
       · intro k
         simp only [xI]
         rw [zI (show ¬ (d.2.length:Int) < (d.2.length:Int) by omega),zo]
 · have h1:(decide ((1:Int)≤(d.1.length:Int)) && decide ((d.1.length:Int)≤8))=false:=by
    rw [Bool.eq_false_iff];intro h
    simp only [zp,ya] at h
    exact hn (by omega)
   have h2:trB d=false:=by
    rw [Bool.eq_false_iff];intro h
    unfold trB at h
    simp only [zp,ya] at h
    have:=yE h.1.1.2
    simp only [xl] at this
    exact hn (by omega)
   rw [h1,h2];rfl
theorem zlS {d:DC} (h:trB d=true):1≤d.1.length∧d.1.length≤8∧y0 (xl d)=true∧d.2.length + 1=d.1.length:=by
 unfold trB at h
 simp only [zp,ya,ym] at h
 have:=yE h.1.1.2
 simp only [xl] at this
 exact ⟨h.1.1.1,by omega,h.1.1.2,h.1.2⟩
theorem zcQ {p:Nat→Bool} {n:Nat}:(xC p n == 0)=!ZU p n:=by
 rw [Jw,Bool.not_not,yJ,ym,yV]
 constructor
 · intro h j hj
   cases hp:p j with
   | false=>rfl
   | true=>
     have:=Wk (p:=fun _=>false) (q:=p) (n:=n) (by simp) ⟨j,hj,rfl,hp⟩
     omega
 · intro h
   rw [Yf (q:=fun _=>false) (fun j hj=>by simpa using h j hj)]
   unfold xC
   rw [List.countP_eq_zero];simp
theorem zh6 {F:Nat} {g:Gr} {d:DC} (hg:y0 g=true) (hd:Dg F d) (hG:g.2.length < F) (hs:Sm g.2.length):Wc F g d=some (dcB g d):=by
 have hf:=hd.bg.fuel
 have hl:=hd.bg.len
 have htl:=hd.tl
 have h8:=yE hg
 unfold Wc
 rw [zhl hg hd,ze]
 have hdc:dcB g d=((trB d && wG (fun i=>Uq g.1 (d.1.getD i [])) d.1.length) && wG (MB d) g.1.toNat && wG (KB g d) g.2.length):=rfl
 rw [hdc]
 cases hc:(trB d && wG (fun i=>Uq g.1 (d.1.getD i [])) d.1.length) with
 | false=>rfl
 | true=>
   rw [zp] at hc
   obtain ⟨hn1,hn8,hT,hlen⟩:=zlS hc.1
   rw [yS,zo,z6]
   rw [vQ (L:=fun k i=>vW F g d k i) (n:=g.1.toNat) (p:=MB d) (bad:=some false) (fin:=some (wG (KB g d) g.2.length)) ?_ ?_ F (by omega)]
   · cases wG (MB d) g.1.toNat <;> rfl
   · intro k x hx
     simp only [vW,Wa]
     rw [zw (show (x:Int) < g.1 by omega),zq,zfC hd hn8 (by simp),ze,xL,yw hx (by unfold Sm;omega)]
     have hj:=QR (F:=F) (T:=xl d) (p:=fun i=>[(x:Int)].all fun x=>inB d.1 x i) hT (by omega) (show d.2.length < F by omega) (show Sm d.2.length by unfold Sm;omega)
     simp only [xl,z8] at hj
     have hfun:(fun i=>[(x:Int)].all fun x=>inB d.1 x i)=fun i=>inB d.1 (x:Int) i:=by funext i;simp
     rw [hj,ze,hfun]
     unfold MB
     have hz:((xC (fun i=>inB d.1 (x:Int) i) d.1.length:Int) == 0)=(xC (fun i=>inB d.1 (x:Int) i) d.1.length == 0):=by
      rw [yJ,ym,ym];omega
     rw [hz]
     cases h0:(xC (fun i=>inB d.1 (x:Int) i) d.1.length == 0) with
     | true=>
       have:(prt (xl d) d.1.length (fun i=>inB d.1 (x:Int) i)).length=0:=by
        rw [zcQ,yT,Jw,Bool.not_eq_false'] at h0
        have h1:=yV.1 h0
        have hno:ZZ (fun i=>inB d.1 (x:Int) i) (xl d).1.toNat=none:=by
         rw [vv]
         intro j hj
         simp only [xl,z8] at hj
         simpa using h1 j hj
        obtain ⟨m,hm⟩:∃ m,d.1.length=m + 1:=⟨d.1.length - 1,by omega⟩
        have hno':ZZ (fun i=>inB d.1 (x:Int) i) d.1.length=none:=by simpa only [xl,z8] using hno
        rw [hm] at hno'
        rw [hm]
        simp only [prt,xl,z8,hm,hno',List.length_nil]
       rw [this];rfl
     | false=>
       rw [zo,ZO]
       cases ((prt (xl d) d.1.length (fun i=>inB d.1 (x:Int) i)).length == 1) <;> rfl
   · intro k
     simp only [vW]
     rw [zI (show ¬ (g.1.toNat:Int) < g.1 by omega),zo]
     rw [vQ (L:=fun k i=>Z4 F g d k i) (n:=g.2.length) (p:=KB g d) (bad:=some false) (fin:=some true) ?_ ?_ F hG]
     · cases wG (KB g d) g.2.length <;> rfl
     · intro k i hi
       simp only [Z4]
       rw [zw (show (i:Int) < (g.2.length:Int) by omega),zq,z9 (d:=(0,0)) hi,ze,ze,zfC hd hn8 (by simp),ze,xL,yw hi hs]
       have hfun:(fun t=>[(g.2.getD i (0,0)).1,(g.2.getD i (0,0)).2].all fun x=>inB d.1 x t)=fun t=>inB d.1 (g.2.getD i (0,0)).1 t && inB d.1 (g.2.getD i (0,0)).2 t:=by funext t;simp
       rw [hfun]
       have hz:((xC (fun t=>inB d.1 (g.2.getD i (0,0)).1 t && inB d.1 (g.2.getD i (0,0)).2 t) d.1.length:Int) == 0)=!KB g d i:=by
        rw [show KB g d i=ZU (fun t=>inB d.1 (g.2.getD i (0,0)).1 t && inB d.1 (g.2.getD i (0,0)).2 t) d.1.length from rfl,← zcQ,yJ,ym,ym];omega
       rw [hz]
       cases KB g d i <;> rfl
     · intro k
       simp only [Z4]
       rw [zI (show ¬ (g.2.length:Int) < (g.2.length:Int) by omega),zo]
def Ls (n m:Nat) (P:Nat→Nat→Bool) (hv:List Int):Prop:=hv.length=n∧∀ x,x < n→hv.getD x 0=((mkm (P x) m:Nat):Int)
theorem zlu {n m z i:Nat} {P P':Nat→Nat→Bool} {hv:List Int} (h:Ls n m P hv) (hz:z < n) (hi:i < m) (hm:m≤62) (h1:∀ j,j < m→P' z j=(P z j || j == i)) (h2:∀ x,x≠z→∀ j,j < m→P' x j=P x j) :
    Ls n m P' (hv.set z (ior .i64 (hv.getD z 0) ((2 ^ i:Nat):Int))):=by
 refine ⟨by rw [XF];exact h.1,fun x hx=>?_⟩
 by_cases e:x=z
 · subst e
   rw [zU,List.getElem?_set_self (by rw [h.1];exact hx),y3,h.2 x hx,Wv (xB hm) (Yt (by omega))]
   congr 1
   refine vT fun j=>?_
   rw [vo,yA,wh]
   by_cases hj:j < m
   · rw [zw hj,z6,z6,h1 j hj]
     congr 1
     rw [yJ,ya,ym];omega
   · rw [zI hj,zI (show ¬ i=j by omega)];rfl
 · rw [zU,List.getElem?_set_ne (by omega),← zU,h.2 x hx]
   congr 1
   exact wI fun j hj=>(h2 x e j hj).symm
theorem zjV {F:Nat} {g:Gr} {d:DC} (hg:y0 g=true) (hd:Dg F d) (hG:g.2.length < F) (hs:Sm g.2.length):wE F g d=some (dcB g d):=by
 have hf:=hd.bg.fuel
 have hl:=hd.bg.len
 have htl:=hd.tl
 have h8:=yE hg
 have hdc:dcB g d=(trB d && wG (fun i=>Uq g.1 (d.1.getD i [])) d.1.length && wG (MB d) g.1.toNat && wG (KB g d) g.2.length):=rfl
 unfold wE wm
 by_cases hn0:d.1.length=0
 · have:trB d=false:=by
    rw [Bool.eq_false_iff];intro h
    have:=zlS h;omega
   rw [hdc,this,hn0];rfl
 · have e0:((d.1.length:Int) == 0)=false:=by rw [wv];omega
   rw [e0,zo]
   have hig:=YU (F:=F) (g:=xl d) (show d.2.length < F by omega) (by omega) (show Sm d.2.length by unfold Sm;omega)
   rw [show vl F ((d.1.length:Int),d.2)=some (y0 (xl d)) from hig,ze]
   have htr:trB d=(y0 (xl d) && (d.2.length + 1 == d.1.length) && ((prt (xl d) d.1.length (fun _=>true)).length == 1)):=by
    unfold trB;rw [zw (show 1≤d.1.length by omega),z6]
   cases hT:y0 (xl d) with
   | false=>
     rw [hT] at htr
     rw [hdc,htr];rfl
   | true=>
     rw [hT,z6] at htr
     have ht8:=yE hT
     simp only [xl] at ht8
     have hw:w64 ((d.1.length:Int) - 1)=(d.1.length:Int) - 1:=vP (by omega) (by omega)
     have hne:((d.2.length:Int) != (d.1.length:Int) - 1)=!(d.2.length + 1 == d.1.length):=by
      by_cases h:d.2.length + 1=d.1.length
      · have h1:(d.2.length:Int)=(d.1.length:Int) - 1:=by omega
        rw [h1,h];simp
      · have h1:(d.2.length:Int)≠(d.1.length:Int) - 1:=by omega
        have h2:(d.2.length + 1 == d.1.length)=false:=by simpa using h
        rw [h2];simpa using h1
     rw [yS,zo,hw,hne]
     cases hlen:(d.2.length + 1 == d.1.length) with
     | false=>
       rw [hlen] at htr
       rw [hdc,htr];rfl
     | true=>
       rw [hlen,z6] at htr
       rw [yS,zo]
       have hnet:=Lt (F:=F) (g:=xl d) hT (show d.2.length < F by omega) (show Sm d.2.length by unfold Sm;omega)
       have hpl:=Yt (j:=d.1.length) (by omega)
       have hpow:=Zg d.1.length
       rw [show ZX F ((d.1.length:Int),d.2)=some ⟨wM (xl d)⟩ from hnet,ze,um (by omega),ze]
       have hw1:w64 (((2 ^ d.1.length:Nat):Int) - 1)=((mkm (fun _=>true) d.1.length:Nat):Int):=by
        rw [vP (by omega) (by omega)]
        have:2 ^ d.1.length - 1=mkm (fun _=>true) d.1.length:=by
         refine vT fun j=>?_
         rw [Nat.testBit_two_pow_sub_one,Bool.and_true]
        omega
       have hparts:∀ p:Nat→Bool,uF F ⟨wM (xl d)⟩ ((mkm p d.1.length:Nat):Int)=some ((prt (xl d) d.1.length p).map fun (m:Nat)=>(m:Int)):=by
        intro p
        have:=zhG (F:=F) (g:=xl d) (p:=p) hT (by omega)
        simpa only [xl,z8] using this
       rw [hw1,hparts,ze,uz,zeJ,← htr]
       cases htB:trB d with
       | false=>rw [hdc,htB];rfl
       | true=>
         rw [hdc,htB,z6,yS,zo]
         obtain ⟨n,hn⟩:∃ n:Nat,g.1=n:=⟨g.1.toNat,by omega⟩
         have hmk:mkN g.1 (0:Int)=some (List.replicate n 0):=by rw [hn];exact zbs (by omega)
         rw [hmk,ze]
         rw [zkU (L:=fun k i s=>xd F g d k s i) (n:=d.1.length) (fun i s=>Ls n d.1.length (fun x j=>decide (j < i) && inB d.1 (x:Int) j) s) (p:=fun i=>Uq g.1 (d.1.getD i [])) (r:=some (wG (MB d) g.1.toNat && wG (KB g d) g.2.length)) (bad:=some false) ?_ ?_ ?_ F (List.replicate n 0) (by omega) ?_]
         · cases wG (fun i=>Uq g.1 (d.1.getD i [])) d.1.length <;> rfl
         · intro k i s hi hI hp
           have hbi:=hd.bg.at hi
           obtain ⟨s',hs',he⟩:=Ui (L:=fun k2 t s=>wk F g d (i:Int) (d.1.getD i []) (xd F g d k) k2 s t) (n:=(d.1.getD i []).length) (fun t s=>Ls n d.1.length (fun x j=>(decide (j < i) && inB d.1 (x:Int) j) || (j == i && decide ((x:Int)∈(d.1.getD i []).take t))) s) (fin:=fun s=>xd F g d k s ((i + 1:Nat):Int)) (by
            intro k2 t s ht hI2
            have hxr:=Jj hp _ (vS (d:=0) ht)
            obtain ⟨z,hz⟩:∃ z:Nat,(d.1.getD i []).getD t 0=z:=⟨((d.1.getD i []).getD t 0).toNat,by omega⟩
            rw [hz] at hxr
            have hzn:z < n:=by omega
            refine ⟨_,zlu (P':=fun x j=>(decide (j < i) && inB d.1 (x:Int) j) || (j == i && decide ((x:Int)∈(d.1.getD i []).take (t + 1)))) (z:=z) (i:=i) hI2 hzn hi (by omega) ?_ ?_,?_⟩
            · intro j hj
              have:decide ((z:Int)∈(d.1.getD i []).take (t + 1))=true:=by
               have:=X4 (x:=z) ht hz z
               unfold wN at this
               rw [this];simp
              rw [this]
              cases h1:(j == i) <;> simp
            · intro x hxz j hj
              have:=X4 (x:=z) ht hz x
              unfold wN at this
              have h2:(x == z)=false:=by simpa using hxz
              rw [h2,Yp] at this
              rw [this]
            · simp only [wk]
              rw [zw (show (t:Int) < ((d.1.getD i []).length:Int) by omega),zq,z9 (d:=0) ht,ze,hz,z9 (d:=0) (by rw [hI2.1];exact hzn),ze,um (by omega),ze,ze,z8,yw ht (by unfold Sm;omega)]) (by
            intro k2 s hI2
            simp only [wk]
            rw [zI (show ¬ ((d.1.getD i []).length:Int) < ((d.1.getD i []).length:Int) by omega),zo,yw hi (by unfold Sm;omega)]) F s (by omega) (by
            refine ⟨hI.1,fun x hx=>?_⟩
            rw [hI.2 x hx]
            congr 1
            refine wI fun j hj=>?_
            show _=((decide (j < i) && inB d.1 (x:Int) j) || (j == i && decide ((x:Int)∈(d.1.getD i []).take 0)))
            simp)
           refine ⟨s',⟨hs'.1,fun x hx=>?_⟩,?_⟩
           · rw [hs'.2 x hx]
             congr 1
             refine wI fun j hj=>?_
             show ((decide (j < i) && inB d.1 (x:Int) j) || (j == i && decide ((x:Int)∈(d.1.getD i []).take (d.1.getD i []).length)))=(decide (j < i + 1) && inB d.1 (x:Int) j)
             rw [List.take_length]
             by_cases e:j=i
             · subst e
               simp [inB]
             · have e1:(j == i)=false:=by simpa using e
               rw [e1,ux,Yp]
               congr 1
               rw [decide_eq_decide];omega
           · simp only [xd]
             rw [zw (show (i:Int) < (d.1.length:Int) by omega),zq,z9 (d:=[]) hi,ze,zcF hg (by omega) (by unfold Sm;omega) hG hs (by omega),ze]
             have hp':Uq g.1 (d.1.getD i [])=true:=hp
             rw [hp',yS,zo]
             exact he
         · intro k i s hi hI hp
           have hbi:=hd.bg.at hi
           have hp':Uq g.1 (d.1.getD i [])=false:=hp
           simp only [xd]
           rw [zw (show (i:Int) < (d.1.length:Int) by omega),zq,z9 (d:=[]) hi,ze,zcF hg (by omega) (by unfold Sm;omega) hG hs (by omega),ze,hp']
           rfl
         · intro k s hI
           have hhv:∀ x,x < n→s.getD x 0=((mkm (fun i=>inB d.1 (x:Int) i) d.1.length:Nat):Int):=by
            intro x hx
            rw [hI.2 x hx]
            congr 1
            refine wI fun j hj=>?_
            show (decide (j < d.1.length) && inB d.1 (x:Int) j)=_
            rw [zw hj,z6]
           simp only [xd]
           rw [zI (show ¬ (d.1.length:Int) < (d.1.length:Int) by omega),zo]
           unfold yH yO
           obtain ⟨r,h1,h2,_⟩:=M9 (L:=fun k i=>yu F s ⟨(),(⟨((d.1.length:Int),d.2)⟩,())⟩ k i) (n:=n) (p:=fun x=>!MB d x) (by
            intro k x hx
            simp only [yu,w9]
            rw [hI.1,zw (show (x:Int) < (n:Int) by omega),zq,z9 (d:=0) (by rw [hI.1];exact hx),ze,show ZX F ((d.1.length:Int),d.2)=some ⟨wM (xl d)⟩ from hnet,ze,hhv x hx,hparts,ze,ze,uz,zeJ,yw hx (by unfold Sm;omega)]
            rfl) (by
            intro k
            simp only [yu]
            rw [hI.1,zI (show ¬ (n:Int) < (n:Int) by omega),zo]) F (by omega)
           rw [h1,ze,ze,h2,zds,hn,z8]
           cases wG (MB d) n with
           | false=>rfl
           | true=>
             rw [yS,zo,z6]
             unfold yi yk
             have hok:=(yV.1 (by unfold y0 at hg;simp only [zp] at hg;exact hg.2):∀ i,i < g.2.length→okE g.1 g.2 i=true)
             obtain ⟨r2,h3,h4,_⟩:=M9 (L:=fun k i=>z7 F g.2 ⟨(),(⟨s⟩,())⟩ k i) (n:=g.2.length) (p:=fun i=>!KB g d i) (by
              intro k i hi
              have hoki:=hok i hi
              unfold okE at hoki
              simp only [zp,ya] at hoki
              obtain ⟨⟨⟨o1,o2⟩,o3⟩,_⟩:=hoki
              obtain ⟨u,v,hu,hv⟩:∃ u v:Nat,(g.2.getD i (0,0)).1=u∧(g.2.getD i (0,0)).2=v:=⟨(g.2.getD i (0,0)).1.toNat,(g.2.getD i (0,0)).2.toNat,by omega,by omega⟩
              have hun:u < n:=by omega
              have hvn:v < n:=by omega
              simp only [z7,vc]
              rw [zw (show (i:Int) < (g.2.length:Int) by omega),zq,z9 (d:=(0,0)) hi,ze,hu,hv,z9 (d:=0) (by rw [hI.1];exact hun),ze,z9 (d:=0) (by rw [hI.1];exact hvn),ze,ze,hhv u hun,hhv v hvn,Ub (xB (by omega)) (xB (by omega)),yw hi hs]
              have:(((mkm (fun i=>inB d.1 (u:Int) i) d.1.length &&& mkm (fun i=>inB d.1 (v:Int) i) d.1.length:Nat):Int) == 0)=!KB g d i:=by
               have hiff:(mkm (fun i=>inB d.1 (u:Int) i) d.1.length &&& mkm (fun i=>inB d.1 (v:Int) i) d.1.length)=0↔KB g d i=false:=by
                unfold KB
                rw [hu,hv,Jw,Bool.not_eq_false',yV]
                constructor
                · intro h0 t ht
                  have h5:(mkm (fun i=>inB d.1 (u:Int) i) d.1.length &&& mkm (fun i=>inB d.1 (v:Int) i) d.1.length).testBit t=false:=by rw [h0,Za]
                  rw [Nat.testBit_and,yA,yA,zw ht,z6,z6] at h5
                  rw [h5];rfl
                · intro h
                  apply ZN
                  intro t
                  rw [Nat.testBit_and,yA,yA,Za]
                  by_cases ht:t < d.1.length
                  · have:=h t ht
                    rw [zw ht,z6,z6]
                    cases h6:(inB d.1 (u:Int) t && inB d.1 (v:Int) t) with
                    | false=>rfl
                    | true=>rw [h6] at this;cases this
                  · rw [zI ht];rfl
               cases he:KB g d i with
               | false=>rw [hiff.2 he];rfl
               | true=>
                 have:(mkm (fun i=>inB d.1 (u:Int) i) d.1.length &&& mkm (fun i=>inB d.1 (v:Int) i) d.1.length)≠0:=fun e=>by rw [hiff.1 e] at he;cases he
                 rw [yS,wv];omega
              rw [this]) (by
              intro k
              simp only [z7]
              rw [zI (show ¬ (g.2.length:Int) < (g.2.length:Int) by omega),zo]) F hG
             rw [h3,ze,ze,h4,zds,Bool.not_not]
         · refine ⟨by simp,fun x hx=>?_⟩
           have:mkm (fun j=>decide (j < 0) && inB d.1 (x:Int) j) d.1.length=0:=by
            rw [Lo,vv];intro j _;simp
           rw [this,zU,List.getElem?_replicate,if_pos hx];rfl
theorem WM {n:Int} {l:List Int} (ho:wV n l=true) (h0:0≤n) {i x:Nat} (hi:i < l.length) (hx:l.getD i 0=(x:Int)):wN l i x=false:=by
 have hl:=ve ho
 unfold wN
 refine zI fun hm=>?_
 have hc:=(UY n.toNat (l.take i++l.drop (i + 1)) (fun j hj=>by
  have:=LX ho (x:=(j:Int)) (by omega) (by omega)
  rw [← Y5 i l,zO] at this
  rcases this with h | h
  · exact List.mem_append_left _ h
  · rw [List.drop_eq_getElem_cons hi,yf] at h
    rcases h with h | h
    · rw [zU,yW hi,y3] at hx
      rw [h,hx]
      exact List.mem_append_left _ hm
    · exact List.mem_append_right _ h)).1
 rw [uc,List.length_take,List.length_drop] at hc
 omega
def KT (g:Gr) (m a b:Nat):Bool:=ZU (fun y=>xw g (wth m a) a y && adj g y b) g.1.toNat
theorem YI {g:Gr} {m a b:Nat} (hb:m.testBit b=false) (hab:b≠a):Zi g m a b=KT g m a b:=by
 unfold Zi KT
 have:(b == a)=false:=by simpa using hab
 rw [hb,this];rfl
theorem uZ {g:Gr} {m a b:Nat} (hg:y0 g=true) (ha:a < g.1.toNat):KT g m a b=true↔∃ y,xw g (wth m a) a y=true∧adj g y b=true:=by
 unfold KT
 rw [xN]
 constructor
 · rintro ⟨y,_,h⟩
   rw [zp] at h
   exact ⟨y,h⟩
 · rintro ⟨y,h1,h2⟩
   exact ⟨y,MT hg ha h1,by rw [h1,h2];rfl⟩
theorem YC {m x:Nat}:wth m x x=true:=by simp [wth]
theorem JT {m x j:Nat} (h:m.testBit j=true):wth m x j=true:=by simp [wth,h]
theorem XR {m x j:Nat} (h:wth m x j=true):m.testBit j=true∨j=x:=by simpa [wth] using h
theorem zck {g:Gr} {m a b:Nat} (hg:y0 g=true) (ha:a < g.1.toNat) (hb:b < g.1.toNat) (hM:m < 2 ^ g.1.toNat) (h:KT g m a b=true):KT g m b a=true:=by
 obtain ⟨y,h1,h2⟩:=(uZ hg ha).1 h
 have key:=vx (g:=g) (p:=wth m a) (x:=a) (j:=y)
  (C:=fun j=>j == a || (m.testBit j && ZU (fun z=>xw g m.testBit j z && adj g z a) g.1.toNat)) (by simp) (by
  intro u j hu hj huj
  simp only [y8,ym,zp] at hu ⊢
  rcases XR hj with hmj | rfl
  · right
    refine ⟨hmj,?_⟩
    have hjn:j < g.1.toNat:=by
     by_cases h:j < g.1.toNat
     · exact h
     · have:=Nat.testBit_lt_two_pow (Yj hM (vG (by decide) (show g.1.toNat≤j by omega)))
       rw [this] at hmj;cases hmj
    rw [xN]
    rcases hu with rfl | ⟨hmu,hz⟩
    · refine ⟨j,hjn,?_⟩
      rw [xh,Xm,huj];rfl
    · rw [xN] at hz
      obtain ⟨z,hzn,hz⟩:=hz
      rw [zp] at hz
      refine ⟨z,hzn,?_⟩
      have h1:xw g m.testBit j u=true:=xj hg hjn hmj xh hmu (by rw [Xm];exact huj)
      rw [YV hg hjn hmj h1 hz.1,hz.2];rfl
  · left;rfl) h1
 simp only [y8,ym,zp] at key
 rw [uZ hg hb]
 rcases key with rfl | ⟨hmy,hz⟩
 · exact ⟨b,xh,by rw [Xm];exact h2⟩
 · rw [xN] at hz
   obtain ⟨z,_,hz⟩:=hz
   rw [zp] at hz
   refine ⟨z,?_,hz.2⟩
   have h0:xw g (wth m b) b y=true:=xj hg hb YC xh (JT hmy) (by rw [Xm];exact h2)
   exact vx (C:=xw g (wth m b) b) h0 (fun u j hu hj huj=>xj hg hb YC hu (JT hj) huj) hz.1
theorem Nw {g:Gr} {m x a b:Nat} (hg:y0 g=true) (hx:x < g.1.toNat) (ha:a < g.1.toNat) (hb:b < g.1.toNat) (hM:m < 2 ^ g.1.toNat) :
    KT g (m ||| 2 ^ x) a b=(KT g m a b || (KT g m x a && KT g m x b)):=by
 have hw:∀ j,(m ||| 2 ^ x).testBit j=true↔m.testBit j=true∨j=x:=by
  intro j
  rw [vo,wh,y8,ya]
  exact ⟨fun h=>h.imp id Eq.symm,fun h=>h.imp id Eq.symm⟩
 rw [yJ,y8,zp]
 constructor
 · intro h
   obtain ⟨y,h1,h2⟩:=(uZ hg ha).1 h
   have key:=vx (g:=g) (p:=wth (m ||| 2 ^ x) a) (x:=a) (j:=y) (C:=fun j=>xw g (wth m a) a j || (KT g m x a && xw g (wth m x) x j)) (by rw [xh];rfl) (by
    intro u j hu hj huj
    simp only [y8,zp] at hu ⊢
    rcases hu with hu | ⟨hv,hu⟩
    · rcases XR hj with hj | rfl
      · rcases (hw j).1 hj with hj | rfl
        · left;exact xj hg ha YC hu (JT hj) huj
        · right
          exact ⟨zck hg ha hx hM ((uZ hg ha).2 ⟨u,hu,huj⟩),xh⟩
      · left;exact xh
    · rcases XR hj with hj | rfl
      · right
        refine ⟨hv,?_⟩
        rcases (hw j).1 hj with hj | rfl
        · exact xj hg hx YC hu (JT hj) huj
        · exact xh
      · left;exact xh) h1
   simp only [y8,zp] at key
   rcases key with h | ⟨h3,h4⟩
   · left;exact (uZ hg ha).2 ⟨y,h,h2⟩
   · right;exact ⟨h3,(uZ hg hx).2 ⟨y,h4,h2⟩⟩
 · have hup:∀ y,xw g (wth m a) a y=true→xw g (wth (m ||| 2 ^ x) a) a y=true:=fun y h=>
    vx (C:=xw g (wth (m ||| 2 ^ x) a) a) xh (fun u j hu hj huj=>xj hg ha YC hu (by
     rcases XR hj with hj | rfl
     · exact JT ((hw j).2 (.inl hj))
     · exact YC) huj) h
   rintro (h | ⟨h1,h2⟩)
   · obtain ⟨y,h1,h2⟩:=(uZ hg ha).1 h
     exact (uZ hg ha).2 ⟨y,hup y h1,h2⟩
   · obtain ⟨y,y1,y2⟩:=(uZ hg ha).1 (zck hg hx ha hM h1)
     obtain ⟨z,z1,z2⟩:=(uZ hg hx).1 h2
     have hax:xw g (wth (m ||| 2 ^ x) a) a x=true:=xj hg ha YC (hup y y1) (JT ((hw x).2 (.inr rfl))) y2
     exact (uZ hg ha).2 ⟨z,vx (C:=xw g (wth (m ||| 2 ^ x) a) a) hax (fun u j hu hj huj=>xj hg ha YC hu (JT ((hw j).2 (XR hj))) huj) z1,z2⟩
theorem zjb {g:Gr} {m x a b:Nat} (hg:y0 g=true) (hx:x < g.1.toNat) (ha:a < g.1.toNat) (hb:b < g.1.toNat) (hM:m < 2 ^ g.1.toNat) (h1:(m ||| 2 ^ x).testBit a=false) (h2:(m ||| 2 ^ x).testBit b=false) :
    Zi g (m ||| 2 ^ x) a b=(Zi g m a b || (Zi g m x a && Zi g m x b && !(b == a))):=by
 have h1':m.testBit a=false∧a≠x:=by
  rw [vo,wh,Bool.or_eq_false_iff,decide_eq_false_iff_not] at h1
  exact ⟨h1.1,fun e=>h1.2 e.symm⟩
 have h2':m.testBit b=false∧b≠x:=by
  rw [vo,wh,Bool.or_eq_false_iff,decide_eq_false_iff_not] at h2
  exact ⟨h2.1,fun e=>h2.2 e.symm⟩
 by_cases hab:b=a
 · subst hab
   simp [Zi]
 · have:(b == a)=false:=by simpa using hab
   rw [YI h2 hab,YI h2'.1 hab,YI h1'.1 h1'.2,YI h2'.1 h2'.2,Nw hg hx ha hb hM,this]
   simp
def uX (l:List Int) (n i:Nat):Nat:=mkm (wN l i) n
theorem ZR {l:List Int} {n i j:Nat} (hj:j < n):(uX l n i).testBit j=wN l i j:=by
 unfold uX
 rw [yA,zw hj];rfl
theorem KM {l:List Int} {n i x:Nat} (hi:i < l.length) (hx:l.getD i 0=(x:Int)) (hn:x < n):uX l n (i + 1)=uX l n i ||| 2 ^ x:=by
 unfold uX
 symm
 refine vT fun j=>?_
 rw [vo,yA,wh,X4 hi hx]
 by_cases e:x=j
 · subst e;simp [hn]
 · have h1:decide (x=j)=false:=by simpa using e
   have h2:(j == x)=false:=by simp;omega
   rw [h1,h2];simp
structure zjO (g:Gr) (l:List Int) (i:Nat) (P:Nat→Nat→Bool):Prop where
 cur:∀ a b,a < g.1.toNat→b < g.1.toNat→wN l i a=false→wN l i b=false→P a b=Zi g (uX l g.1.toNat i) a b
 old:∀ t x:Nat,t < i→t < l.length→l.getD t 0=(x:Int)→∀ b,b < g.1.toNat→wN l (t + 1) b=false→P x b=Zi g (uX l g.1.toNat t) x b
theorem NW {l:List Int} {s t j:Nat} (h:s≤t) (hs:wN l t j=false):wN l s j=false:=by
 unfold wN at *
 refine zI fun hm=>?_
 have:=of_decide_eq_false hs
 exact this (List.take_subset_take_left l h hm)
theorem zi1 {g:Gr} {l:List Int} {i x:Nat} {P:Nat→Nat→Bool} (hg:y0 g=true) (ho:wV g.1 l=true) (hi:i < l.length) (hx:l.getD i 0=(x:Int)) (h:zjO g l i P) :
    zjO g l (i + 1) (fun a b=>P a b || ((P x a && !wN l (i + 1) a) && (P x b && !wN l (i + 1) b) && !(b == a))):=by
 have h8:=yE hg
 have hxr:=JP ho h8.1 _ (vS (d:=0) hi)
 have hxn:x < g.1.toNat:=by rw [hx] at hxr;omega
 have hfr:=WM ho h8.1 hi hx
 have hxi:wN l (i + 1) x=true:=by rw [X4 hi hx];simp
 refine ⟨?_,?_⟩
 · intro a b ha hb hpa hpb
   have hpa':=NW (Nat.le_succ i) hpa
   have hpb':=NW (Nat.le_succ i) hpb
   have hlt:uX l g.1.toNat i < 2 ^ g.1.toNat:=JX
   show (P a b || _)=_
   rw [h.cur a b ha hb hpa' hpb',h.cur x a hxn ha hfr hpa',h.cur x b hxn hb hfr hpb',hpa,hpb,KM hi hx hxn]
   rw [zjb hg hxn ha hb hlt (by rw [← KM hi hx hxn,ZR ha];exact hpa) (by rw [← KM hi hx hxn,ZR hb];exact hpb)]
   simp
 · intro t y ht htl hy b hb hpb
   show (P y b || _)=_
   by_cases e:t=i
   · subst e
     have:y=x:=by rw [hx] at hy;omega
     subst this
     rw [hxi,h.cur y b hxn hb hfr (NW (Nat.le_succ t) hpb)]
     simp
   · have hyi:wN l (i + 1) y=true:=by
      unfold wN
      refine zw ?_
      have hm:l.getD t 0∈l.take (t + 1):=by
       rw [zU,yW htl,y3]
       rw [List.mem_take_iff_getElem]
       exact ⟨t,by omega,rfl⟩
      rw [hy] at hm
      exact List.take_subset_take_left l (show t + 1≤i + 1 by omega) hm
     rw [hyi,h.old t y (by omega) htl hy b hb hpb]
     simp
theorem zik {g:Gr} {l:List Int} (hg:y0 g=true):zjO g l 0 (adj g):=by
 refine ⟨fun a b ha hb _ _=>?_,fun t _ ht=>absurd ht (by omega)⟩
 have h0:uX l g.1.toNat 0=0:=by
  unfold uX
  apply ZN;intro j
  rw [yA];simp [wN]
 rw [h0]
 by_cases hab:b=a
 · subst hab
   have:Zi g 0 b b=false:=by simp [Zi]
   rw [this]
   cases hadj:adj g b b with
   | false=>rfl
   | true=>
     unfold adj at hadj
     rw [xN] at hadj
     obtain ⟨i,hi,hj⟩:=hadj
     obtain ⟨e1,e2,e3⟩:=Kq hg hi
     rcases uv.1 hj with ⟨h1,h2⟩ | ⟨h1,h2⟩ <;> omega
 · rw [YI (by simp) hab,yJ,uZ hg ha]
   constructor
   · intro h;exact ⟨a,xh,h⟩
   · rintro ⟨y,h1,h2⟩
     have:=vx (C:=fun j=>j == a) (by simp) (fun u j _ hj _=>by
      rcases XR hj with h | rfl
      · simp at h
      · simp) h1
     simp only [ym] at this
     subst this
     exact h2
theorem zcE {xs:List Int} (h:xs.length≤1000000000000):∃ o,cloneO xs=some o∧o.list=xs:=by
 unfold cloneO
 rw [if_pos h]
 refine ⟨_,rfl,?_⟩
 cases xs with
 | nil=>rfl
 | cons x xs=>rfl
theorem zhD {o:NL Int} {i:Nat} {v:Int}:(NL.set o i v).list=o.list.set i v:=by cases o <;> simp [NL.set,NL.list]
theorem zcI {F:Nat} {g:Gr} {a b:List Int} (h:∀ e,vF F a e=vF F b e) {x:Int}:uw F g a x=uw F g b x:=by
 have h1:∀ (kk:Int) (r:List Int) (c:List Int→List Int→Int→Option (List Int)) (k:Nat) (o s:List Int) (i:Int),xA F a g kk r c k o s i=xA F b g kk r c k o s i:=by
  intro kk r c k
  induction k with
  | zero=>intro o s i;rfl
  | succ k ih=>
    intro o s i
    have ih':xA F a g kk r c k=xA F b g kk r c k:=by funext o s i;exact ih o s i
    simp only [xA,h,ih',Yo]
 have h2:∀ (k:Nat) (o s:List Int) (i:Int),wu F a g k o s i=wu F b g k o s i:=by
  intro k
  induction k with
  | zero=>intro o s i;rfl
  | succ k ih=>
    intro o s i
    have ih':wu F a g k=wu F b g k:=by funext o s i;exact ih o s i
    simp only [wu,ih',h1]
 unfold uw
 exact h2 _ _ _ _
theorem zdZ {F:Nat} {g:Gr} {l:List Int} {i x:Nat} (hg:y0 g=true) (ho:wV g.1 l=true) (hF:20≤F) (hG:g.2.length < F) (hs:Sm g.2.length) (hi:i≤l.length) (hx:x < g.1.toNat) :
    uw F g (l.take i) (x:Int)=some (yn (Zi g (uX l g.1.toNat i) x) g.1.toNat):=by
 have h8:=yE hg
 have hlen:=ve ho
 have hlt:uX l g.1.toNat i < 2 ^ g.1.toNat:=JX
 have hc:=ur (p:=(uX l g.1.toNat i).testBit) (n:=g.1.toNat)
 rw [← ziC (F:=F) hg hF hG hs hlt hx]
 refine zcI fun e=>?_
 rw [W8 (by simp;omega) (by unfold Sm;simp;omega),W8 (by rw [xL];omega) (by unfold Sm;rw [xL];omega)]
 congr 1
 rw [yJ,ya,ya,Zd]
 constructor
 · intro h
   have hr:=JP ho h8.1 e (List.mem_of_mem_take h)
   refine ⟨e.toNat,by omega,by omega,?_⟩
   rw [ZR (by omega)]
   unfold wN
   rw [Int.toNat_of_nonneg hr.1]
   exact zw h
 · rintro ⟨j,rfl,hj,hb⟩
   rw [ZR hj] at hb
   exact of_decide_eq_true hb
def elV (g:Gr) (l:List Int) (i:Nat):Int:=(xC (Zi g (uX l g.1.toNat i) (l.getD i 0).toNat) g.1.toNat:Int)
def elW (g:Gr) (l:List Int) (k:Nat):Int:=(List.range k).foldl (fun s i=>max s (elV g l i)) (-1)
theorem Nf {g:Gr} {l:List Int} {k:Nat}:elW g l (k + 1)=max (elW g l k) (elV g l k):=by simp [elW,ZH]
theorem zlv {F:Nat} {g:Gr} {l:List Int} {i x:Nat} {P:Nat→Nat→Bool} {o:NL Int} {q left:Int} {c:NL Int→Int→Int→Option (S1 (List Int))} (hg:y0 g=true) (hF:20≤F) (hx:x < g.1.toNat) (hH:Ls g.1.toNat g.1.toNat P o.list) (hfx:wN l (i + 1) x=true)
    (hleft:yx .i64 left q=((mkm (fun j=>!wN l (i + 1) j) g.1.toNat:Nat):Int)) :
    ∃ o',Ls g.1.toNat g.1.toNat (fun a b=>P a b || ((P x a && !wN l (i + 1) a) && (P x b && !wN l (i + 1) b) && !(b == a))) o'.list ∧
     wS F left q ((mkm (P x) g.1.toNat:Nat):Int) l (i:Int) (yn (fun j=>P x j && !wN l (i + 1) j) g.1.toNat) c F o 0=c o' (yx .i64 left q) (w64 ((i:Int) + 1)):=by
 have h8:=yE hg
 obtain ⟨n,hn⟩:∃ n:Nat,g.1.toNat=n:=⟨_,rfl⟩
 have hn8:n≤8:=by omega
 rw [hn] at hx hH hleft ⊢
 obtain ⟨B,hB⟩:∃ B:Nat→Bool,(fun j=>P x j && !wN l (i + 1) j)=B:=⟨_,rfl⟩
 have hBj:∀ j,(P x j && !wN l (i + 1) j)=B j:=fun j=>congrFun hB j
 rw [hB]
 simp only [hBj]
 have hl8:(yn B n).length≤8:=by rw [xL];exact Zf ur hn8
 obtain ⟨s,hs,he⟩:=Ui (L:=fun k2 t (s:NL Int)=>wS F left q ((mkm (P x) n:Nat):Int) l (i:Int) (yn B n) c k2 s t) (n:=(yn B n).length)
  (fun t s=>Ls n n (fun a b=>P a b || (decide ((a:Int)∈(yn B n).take t) && B b && !(b == a))) s.list) (fin:=fun s=>c s (yx .i64 left q) (w64 ((i:Int) + 1))) (by
    intro k2 t s ht hI
    obtain ⟨y,hy,hyn,hyB⟩:=Ks ht
    have htake:(yn B n).take (t + 1)=(yn B n).take t++[(y:Int)]:=by
     rw [List.take_add_one,yW ht]
     rw [zU,yW ht,y3] at hy
     rw [hy];rfl
    have hget:=hI.2 y hyn
    have hbm:yI .i64 ((mkm (P x) n:Nat):Int) ((mkm (fun j=>!wN l (i + 1) j) n:Nat):Int)=((mkm B n:Nat):Int):=by
     rw [zaY hn8,hB]
    have hpow:((2 ^ y:Nat):Int)=((mkm (fun j=>j == y) n:Nat):Int):=by
     congr 1
     refine vT fun j=>?_
     rw [wh]
     by_cases e:y=j
     · subst e;simp [hyn]
     · have h1:decide (y=j)=false:=by simpa using e
       have h2:(j == y)=false:=by simp;omega
       rw [h1,h2];simp
    refine ⟨NL.set s y (ior .i64 (s.list.getD y 0) (yx .i64 ((mkm B n:Nat):Int) ((2 ^ y:Nat):Int))),?_,?_⟩
    · rw [zhD]
      refine ⟨by rw [XF];exact hI.1,fun a ha=>?_⟩
      by_cases e:a=y
      · subst e
        rw [zU,List.getElem?_set_self (by rw [hI.1];exact ha),y3,hget,hpow,KS hn8,Wv (xB (by omega)) (xB (by omega))]
        congr 1
        refine vT fun j=>?_
        rw [vo,yA,yA,htake]
        have hmem:decide ((a:Int)∈(yn B n).take t++[(a:Int)])=true:=by simp
        dsimp only
        rw [hmem]
        cases decide (j < n) <;> cases P a j <;> cases B j <;> cases (j == a) <;> cases decide ((a:Int)∈(yn B n).take t) <;> rfl
      · rw [zU,List.getElem?_set_ne (by omega),← zU,hI.2 a ha]
        congr 1
        refine wI fun j _=>?_
        have hmem:decide ((a:Int)∈(yn B n).take (t + 1))=decide ((a:Int)∈(yn B n).take t):=by
         rw [htake,yJ,ya,ya,zO,xo]
         constructor
         · rintro (h | h)
           · exact h
           · omega
         · exact .inl
        dsimp only
        rw [hmem]
    · simp only [wS]
      rw [zw (show (t:Int) < ((yn B n).length:Int) by omega),zq,z9 (d:=0) ht,ze,hy,z9 (d:=0) (by rw [hI.1];exact hyn),ze,um (by omega),ze,ze,hleft,hbm,z8,yw ht (by unfold Sm;omega)]) (by
    intro k2 s hI
    simp only [wS]
    rw [zI (show ¬ ((yn B n).length:Int) < ((yn B n).length:Int) by omega),zo]) F o (by omega) (by
    have:(fun a b=>P a b || (decide ((a:Int)∈(yn B n).take 0) && B b && !(b == a)))=P:=by
     funext a b;simp
    rw [this];exact hH)
 refine ⟨s,?_,he⟩
 rw [List.take_length] at hs
 have hP:∀ a,a < n→∀ b,(P a b || (decide ((a:Int)∈yn B n) && B b && !(b == a)))=(P a b || ((B a) && (B b) && !(b == a))):=by
  intro a ha b
  have:decide ((a:Int)∈yn B n)=B a:=by
   rw [yJ,ya,Zd]
   constructor
   · rintro ⟨j,h1,_,h3⟩
     have:a=j:=by omega
     rw [this];exact h3
   · intro h;exact ⟨a,rfl,ha,h⟩
  rw [this]
 exact ⟨hs.1,fun a ha=>by rw [hs.2 a ha];congr 1;exact wI fun j _=>hP a ha j⟩
theorem zlr {F:Nat} {g:Gr} {l:List Int} (hg:y0 g=true) (ho:wV g.1 l=true) (hF:20≤F):∃ L P,uS F ⟨wM g⟩ l=some ⟨L⟩∧Ls g.1.toNat g.1.toNat P L∧zjO g l l.length P:=by
 have h8:=yE hg
 have hlen:=ve ho
 unfold uS ZQ Zb
 obtain ⟨o0,h0,h0l⟩:=zcE (xs:=wM g) (by rw [ZI];omega)
 rw [h0,ze,ze]
 have hall:vn F ⟨wM g⟩=some ((mkm (fun j=>!wN l 0 j) g.1.toNat:Nat):Int):=by
  have hp:=Zg g.1.toNat
  have:=zin (n:=g.1.toNat) (by omega)
  unfold vn
  rw [ZI,um (by omega),ze,vP (by omega) (by omega)]
  have e:mkm (fun j=>!wN l 0 j) g.1.toNat=2 ^ g.1.toNat - 1:=by
   symm
   refine vT fun j=>?_
   rw [Nat.testBit_two_pow_sub_one]
   simp [wN]
  rw [e]
  congr 1;omega
 rw [hall,ze]
 obtain ⟨⟨s,lf⟩,⟨⟨P,h1,h2⟩,_⟩,he⟩:=Ui (L:=fun k t (s:NL Int×Int)=>wt F l k s.1 s.2 t) (n:=l.length)
  (fun t s=>(∃ P,Ls g.1.toNat g.1.toNat P s.1.list∧zjO g l t P)∧s.2=((mkm (fun j=>!wN l t j) g.1.toNat:Nat):Int)) (fin:=fun s=>some ⟨s.1.list⟩) (by
    rintro k t ⟨s,lf⟩ ht ⟨⟨P,h1,h2⟩,h3⟩
    simp only at h1 h3
    subst h3
    have hr:=JP ho h8.1 _ (vS (d:=0) ht)
    obtain ⟨x,hx⟩:∃ x:Nat,l.getD t 0=x:=⟨(l.getD t 0).toNat,by omega⟩
    have hxn:x < g.1.toNat:=by omega
    have hxi:wN l (t + 1) x=true:=by rw [X4 ht hx];simp
    have hpow:((2 ^ x:Nat):Int)=((mkm (fun j=>j == x) g.1.toNat:Nat):Int):=by
     congr 1
     refine vT fun j=>?_
     rw [wh]
     by_cases e:x=j
     · subst e;simp [hxn]
     · have h1:decide (x=j)=false:=by simpa using e
       have h2:(j == x)=false:=by simp;omega
       rw [h1,h2];simp
    have hleft:yx .i64 ((mkm (fun j=>!wN l t j) g.1.toNat:Nat):Int) ((2 ^ x:Nat):Int)=((mkm (fun j=>!wN l (t + 1) j) g.1.toNat:Nat):Int):=by
     rw [hpow,KS (by omega)]
     congr 1
     refine wI fun j _=>?_
     show (!wN l t j && !(j == x))=!wN l (t + 1) j
     rw [X4 ht hx]
     cases wN l t j <;> cases (j == x) <;> rfl
    obtain ⟨o',p1,p2⟩:=zlv (F:=F) (i:=t) (c:=wt F l k) hg hF hxn h1 hxi hleft
    refine ⟨(o',((mkm (fun j=>!wN l (t + 1) j) g.1.toNat:Nat):Int)),⟨⟨_,p1,zi1 hg ho ht hx h2⟩,rfl⟩,?_⟩
    simp only [wt]
    rw [zw (show (t:Int) < (l.length:Int) by omega),zq,z9 (d:=0) ht,ze,hx,um (by omega),ze,z9 (d:=0) (by rw [h1.1];exact hxn),ze,h1.2 x hxn]
    have hset:Xp F (yI .i64 ((mkm (P x) g.1.toNat:Nat):Int) (yx .i64 ((mkm (fun j=>!wN l t j) g.1.toNat:Nat):Int) ((2 ^ x:Nat):Int)))=some (yn (fun j=>P x j && !wN l (t + 1) j) g.1.toNat):=by
     rw [hleft,zaY (by omega)]
     exact NH (by omega) hF
    rw [hset,ze,p2,yw ht (by unfold Sm;omega),hleft]) (by
    rintro k ⟨s,lf⟩ _
    simp only [wt]
    rw [zI (show ¬ (l.length:Int) < (l.length:Int) by omega),zo]) F (o0,_) (by omega) ⟨⟨adj g,⟨by rw [h0l,ZI],fun x hx=>by rw [h0l];exact Mb hx⟩,zik hg⟩,rfl⟩
 exact ⟨s.list,P,he,h1,h2⟩
def nbL (g:Gr) (l:List Int) (n:Nat):List Int:=(List.range n).map fun i=>((mkm (Zi g (uX l g.1.toNat i) (l.getD i 0).toNat) g.1.toNat:Nat):Int)
theorem zip {g:Gr} {l:List Int} {n:Nat}:nbL g l (n + 1)=nbL g l n++[((mkm (Zi g (uX l g.1.toNat n) (l.getD n 0).toNat) g.1.toNat:Nat):Int)]:=by simp [nbL,ZH]
theorem Uf {g:Gr} {l:List Int} {n:Nat}:(nbL g l n).length=n:=by simp [nbL]
theorem Qy {F:Nat} {g:Gr} {l:List Int} (hg:y0 g=true) (ho:wV g.1 l=true) (hF:20≤F):xu F ⟨wM g⟩ l=some (nbL g l l.length):=by
 have h8:=yE hg
 have hlen:=ve ho
 obtain ⟨L,P,f1,f2,f3⟩:=zlr hg ho hF
 unfold xu
 have hall:vn F ⟨wM g⟩=some ((mkm (fun j=>!wN l 0 j) g.1.toNat:Nat):Int):=by
  have hp:=Zg g.1.toNat
  have:=zin (n:=g.1.toNat) (by omega)
  unfold vn
  rw [ZI,um (by omega),ze,vP (by omega) (by omega)]
  have e:mkm (fun j=>!wN l 0 j) g.1.toNat=2 ^ g.1.toNat - 1:=by
   symm
   refine vT fun j=>?_
   rw [Nat.testBit_two_pow_sub_one]
   simp [wN]
  rw [e]
  congr 1;omega
 rw [f1,ze,hall,ze]
 obtain ⟨⟨lf,s⟩,⟨_,h2⟩,he⟩:=Ui (L:=fun k t (s:Int×NL Int)=>xq F ⟨L⟩ l k s.1 s.2 t) (n:=l.length)
  (fun t s=>s.1=((mkm (fun j=>!wN l t j) g.1.toNat:Nat):Int)∧s.2.list=nbL g l t) (fin:=fun s=>some s.2.list) (by
    rintro k t ⟨lf,s⟩ ht ⟨h1,h2⟩
    simp only at h1 h2
    subst h1
    have hr:=JP ho h8.1 _ (vS (d:=0) ht)
    obtain ⟨x,hx⟩:∃ x:Nat,l.getD t 0=x:=⟨(l.getD t 0).toNat,by omega⟩
    have hxn:x < g.1.toNat:=by omega
    have hpow:((2 ^ x:Nat):Int)=((mkm (fun j=>j == x) g.1.toNat:Nat):Int):=by
     congr 1
     refine vT fun j=>?_
     rw [wh]
     by_cases e:x=j
     · subst e;simp [hxn]
     · have h1:decide (x=j)=false:=by simpa using e
       have h2:(j == x)=false:=by simp;omega
       rw [h1,h2];simp
    have hleft:yx .i64 ((mkm (fun j=>!wN l t j) g.1.toNat:Nat):Int) ((2 ^ x:Nat):Int)=((mkm (fun j=>!wN l (t + 1) j) g.1.toNat:Nat):Int):=by
     rw [hpow,KS (by omega)]
     congr 1
     refine wI fun j _=>?_
     show (!wN l t j && !(j == x))=!wN l (t + 1) j
     rw [X4 ht hx]
     cases wN l t j <;> cases (j == x) <;> rfl
    have hrow:yI .i64 ((mkm (P x) g.1.toNat:Nat):Int) ((mkm (fun j=>!wN l (t + 1) j) g.1.toNat:Nat):Int)=((mkm (Zi g (uX l g.1.toNat t) x) g.1.toNat:Nat):Int):=by
     rw [zaY (by omega)]
     congr 1
     refine wI fun j hj=>?_
     show (P x j && !wN l (t + 1) j)=_
     cases hpj:wN l (t + 1) j with
     | false=>rw [f3.old t x ht ht hx j hj hpj];simp
     | true=>
       rw [yS,Bool.and_false]
       rw [X4 ht hx,y8] at hpj
       unfold Zi
       rw [ZR hj]
       rcases hpj with h | h
       · rw [h];rfl
       · rw [h];simp
    refine ⟨(((mkm (fun j=>!wN l (t + 1) j) g.1.toNat:Nat):Int),.of (s.list++[((mkm (Zi g (uX l g.1.toNat t) x) g.1.toNat:Nat):Int)])),⟨rfl,?_⟩,?_⟩
    · show s.list++_=_
      rw [h2,zip,hx,z8]
    · simp only [xq]
      rw [zw (show (t:Int) < (l.length:Int) by omega),zq,z9 (d:=0) ht,ze,hx,um (by omega),ze,z9 (d:=0) (by rw [f2.1];exact hxn),ze,f2.2 x hxn,hleft,hrow,YJ (by rw [h2,Uf];omega),ze,yw ht (by unfold Sm;omega)]) (by
    rintro k ⟨lf,s⟩ _
    simp only [xq]
    rw [zI (show ¬ (l.length:Int) < (l.length:Int) by omega),zo]) F (_,.nil) (by omega) ⟨rfl,rfl⟩
 have he':xq F ⟨L⟩ l F ((mkm (fun j=>!wN l 0 j) g.1.toNat:Nat):Int) .nil 0=some s.list:=he
 rw [he',h2]
theorem zkw {F:Nat} {g:Gr} {l:List Int} (hF:l.length < F) (hG:g.2.length < F) (h9:20≤F) (hl:Sm l.length) (hs:Sm g.2.length) :
    wl F g l=some (bif y0 g && wV g.1 l then (elW g l l.length,true) else (0,false)):=by
 unfold wl
 rw [YU hG (by omega) hs,ze]
 cases hg:y0 g with
 | false=>rfl
 | true=>
   have h8:=yE hg
   rw [yS,zo,M0 h8.1 h8.2 hF hl,ze,z6]
   cases ho:wV g.1 l with
   | false=>rfl
   | true=>
     have hlen:=ve ho
     unfold vj
     rw [yS,zo,Lt hg hG hs,ze,Qy hg ho h9,ze,zq]
     refine ZD (L:=fun k i s=>we F (nbL g l l.length) k s i) (n:=l.length) (fun i s=>s=elW g l i) ?_ ?_ F (-1) (by omega) rfl
     · intro k i s hi hI
       subst hI
       refine ⟨_,rfl,?_⟩
       have hget:(nbL g l l.length).getD i 0=((mkm (Zi g (uX l g.1.toNat i) (l.getD i 0).toNat) g.1.toNat:Nat):Int):=by
        simp [nbL,zU,hi]
       simp only [we]
       rw [zw (show (i:Int) < ((nbL g l l.length).length:Int) by rw [Uf];omega),zq,z9 (d:=0) (by rw [Uf];exact hi),ze,hget,za6 (MW (by omega)),ze,Nx (by omega),yw hi (by unfold Sm;omega),Nf]
       have:(if ((xC (Zi g (uX l g.1.toNat i) (l.getD i 0).toNat) g.1.toNat:Nat):Int) > elW g l i then ((xC (Zi g (uX l g.1.toNat i) (l.getD i 0).toNat) g.1.toNat:Nat):Int) else elW g l i)=max (elW g l i) (elV g l i):=by
        unfold elV
        by_cases h:((xC (Zi g (uX l g.1.toNat i) (l.getD i 0).toNat) g.1.toNat:Nat):Int) > elW g l i
        · rw [if_pos h,Int.max_eq_right (by omega)]
        · rw [zy h,Int.max_eq_left (by omega)]
       rw [this]
     · intro k s hI
       subst hI
       simp only [we]
       rw [zI (show ¬ (l.length:Int) < ((nbL g l l.length).length:Int) by rw [Uf];omega),zo]
theorem ub {α:Type} {xs ys:List α} (h:xs.length + ys.length≤1099511627776):vh xs ys=some (xs++ys):=by
 unfold vh
 rw [if_pos (by simpa using h)]
theorem LS {l:List Int} {i j a:Nat} (h:i≤j) (hp:wN l j a=false):wN l i a=false:=by
 simp only [wN,decide_eq_false_iff_not] at hp ⊢
 exact fun hm=>hp (List.take_subset_take_left l h hm)
def zln (l:List (Int×Int)):Prop:=l.Pairwise fun a b=>bef a b=true
def Ud {α:Type} (p:α→Bool):List α→Nat
 | []=>0
 | x :: xs=>if p x then Ud p xs + 1 else 0
theorem zbz {α:Type} {p:α→Bool}:∀ {xs:List α},Ud p xs≤xs.length
 | []=>xF _
 | x :: xs=>by
   have:=zbz (p:=p) (xs:=xs)
   simp only [Ud,ZK]
   split <;> omega
theorem zet {α:Type} {p:α→Bool}:∀ {xs:List α} {i:Nat} (h:i < Ud p xs) (h2:i < xs.length),p xs[i]=true
 | [],i,h,_=>by simp [Ud] at h
 | x :: xs,i,h,h2=>by
   simp only [Ud] at h
   split at h
   · rename_i hx
     cases i with
     | zero=>exact hx
     | succ i=>exact zet (xs:=xs) (by omega) (by simpa using h2)
   · omega
theorem zeA {α:Type} {p:α→Bool}:∀ {xs:List α} (h:Ud p xs < xs.length),p xs[Ud p xs]=false
 | [],h=>by simp [Ud] at h
 | x :: xs,h=>by
   by_cases hx:p x=true
   · have e:Ud p (x :: xs)=Ud p xs + 1:=by simp [Ud,hx]
     have h':Ud p xs < xs.length:=by rw [e] at h;simpa using h
     have:=zeA (p:=p) (xs:=xs) h'
     simp only [e,List.getElem_cons_succ]
     exact this
   · have e:Ud p (x :: xs)=0:=by simp [Ud,hx]
     simp only [e,List.getElem_cons_zero]
     simpa using hx
def zg7 (xs:List (Int×Int)) (e:Int×Int):List (Int×Int):=xs.take (Ud (fun z=>bef z e) xs)++e :: xs.drop (Ud (fun z=>bef z e) xs)
theorem No {xs:List (Int×Int)} {e:Int×Int}:(zg7 xs e).length=xs.length + 1:=by
 unfold zg7
 have:=zbz (p:=fun z=>bef z e) (xs:=xs)
 simp;omega
theorem Nl {F:Nat} {xs:List (Int×Int)} {e:Int×Int} (hF:xs.length < F) (hl:xs.length≤1000000):Yr F xs e=some (.of (zg7 xs e)):=by
 have hle:=zbz (p:=fun z=>bef z e) (xs:=xs)
 unfold Yr
 refine MF (L:=fun k i=>w3 F xs e k i) (n:=Ud (fun z=>bef z e) xs) ?_ ?_ F (by omega)
 · intro k i hi
   have h1:=zet (p:=fun z=>bef z e) (xs:=xs) hi (by omega)
   simp only [w3,Zz]
   rw [zw (show (i:Int) < (xs.length:Int) by omega),zq,Kt (by omega),ze,Ug,ze]
   rw [h1,zq,yw (n:=xs.length) (by omega) (by unfold Sm;omega)]
 · intro k
   have hfin:Zz F xs e ((Ud (fun z=>bef z e) xs:Nat):Int) (w3 F xs e k) false=some (.of (zg7 xs e)):=by
    simp only [Zz]
    rw [zo,Ly hle,ze,ub (by simp;omega),ze,ub (by simp;omega),ze,Le hle,ze,ub (by simp;omega),ze]
    unfold zg7
    simp
   simp only [w3]
   by_cases h:Ud (fun z=>bef z e) xs < xs.length
   · have h1:=zeA (p:=fun z=>bef z e) (xs:=xs) h
     rw [zw (show ((Ud (fun z=>bef z e) xs:Nat):Int) < (xs.length:Int) by omega),zq,Kt h,ze,Ug,ze]
     rw [h1]
     exact hfin
   · rw [zI (show ¬ ((Ud (fun z=>bef z e) xs:Nat):Int) < (xs.length:Int) by omega),zo]
     exact hfin
theorem M5 {F:Nat} {a b:Int}:ZM F a b=some (min a b):=by
 unfold ZM
 by_cases h:a < b
 · simp [h];omega
 · simp [h];omega
theorem K2 {l:List Int} {t i x:Nat} (ht:t < i) (hl:t < l.length) (hx:l.getD t 0=(x:Int)):wN l i x=true:=by
 unfold wN
 refine zw ?_
 rw [List.mem_take_iff_getElem]
 refine ⟨t,by omega,?_⟩
 rw [← hx,zU,yW hl];rfl
theorem Ll {g:Gr} {m x b:Nat} (h:Zi g m x b=true):m.testBit b=false∧b≠x:=by
 unfold Zi at h
 simp only [zp,yT,wv] at h
 exact h.1
def pcN (n a:Nat):Nat:=xC a.testBit n
def nxS (g:Gr) (s:Nat×Nat) (step:Int):Nat×Nat:=(mkm (JF s.1.testBit step) g.1.toNat,mkm (spr g (fun j=>!JF s.1.testBit step j) s.2.testBit) g.1.toNat)
def cnS (g:Gr) (k:Int) (s:Nat×Nat) (step:Int):Bool:=zo9 g.1.toNat s.1.testBit step && !(decide (step≥0) && ((pcN g.1.toNat s.1:Int) == k))
inductive Rch (g:Gr) (k:Int):Nat×Nat→Prop
 | init:Rch g k (0,2 ^ g.1.toNat - 1)
 | step {s:Nat×Nat} {step:Int}:Rch g k s→cnS g k s step=true→Rch g k (nxS g s step)
structure Gst (g:Gr) (k:Int) (s:Nat×Nat):Prop where
 lt1:s.1 < 2 ^ g.1.toNat
 lt2:s.2 < 2 ^ g.1.toNat
 dis:∀ j,s.1.testBit j=true→s.2.testBit j=false
 cl:∀ a b,adj g a b=true→s.2.testBit a=true→s.1.testBit b=false→s.2.testBit b=true
 sz:(pcN g.1.toNat s.1:Int)≤k
theorem JH {p:Nat→Bool} {x:Nat} (hx:p x=false):∀ {n:Nat},x < n→xC (fun j=>p j || j == x) n=xC p n + 1
 | 0,h=>by omega
 | n + 1,h=>by
   unfold xC
   rw [ZH,List.countP_append,List.countP_append]
   by_cases e:x=n
   · subst e
     have:(List.range x).countP (fun j=>p j || j == x)=(List.range x).countP p:=by
      apply List.countP_congr
      intro j hj
      rw [Y4] at hj
      have:(j == x)=false:=by simp;omega
      rw [this,Yp]
     rw [this]
     simp [hx]
   · have:=JH hx (n:=n) (by omega)
     unfold xC at this
     rw [this]
     have e2:(n == x)=false:=by simp;omega
     simp [e2]
     omega
theorem zdO {p:Nat→Bool} {step:Int} (h:0≤step) (j:Nat):JF p step j=(p j || j == step.toNat):=by
 unfold JF L1
 rw [zy (by omega),zy (by omega)]
theorem zj7 {p:Nat→Bool} {step:Int} (h:step < 0) {j:Nat} (hj:JF p step j=true):p j=true:=by
 unfold JF at hj
 rw [if_pos h,zp] at hj
 exact hj.1
theorem zdM {n:Nat} {p:Nat→Bool} {step:Int} (h:0≤step) (hc:zo9 n p step=true):step.toNat < n∧p step.toNat=false:=by
 unfold zo9 L1 at hc
 rw [zy (by omega),zp,ya,zI (by omega),ym] at hc
 exact ⟨by omega,hc.2⟩
theorem zir {g:Gr} (hg:y0 g=true) {k:Int} (hk:0≤k):Gst g k (0,2 ^ g.1.toNat - 1):=by
 have:=Zg g.1.toNat
 refine ⟨by omega,by show 2 ^ g.1.toNat - 1 < _;omega,fun j hj=>?_,fun a b h _ _=>?_,?_⟩
 · rw [Za] at hj;cases hj
 · show (2 ^ g.1.toNat - 1).testBit b=true
   rw [Nat.testBit_two_pow_sub_one]
   have:=Un hg h
   exact zw (by omega)
 · show ((xC (Nat.testBit 0) g.1.toNat:Nat):Int)≤k
   have:xC (Nat.testBit 0) g.1.toNat=0:=by
    unfold xC
    rw [List.countP_eq_zero]
    intro j _
    rw [Za];simp
   rw [this];exact hk
theorem ziO {g:Gr} (hg:y0 g=true) {k:Int} {s:Nat×Nat} {step:Int} (hs:Gst g k s) (hc:cnS g k s step=true):Gst g k (nxS g s step):=by
 unfold cnS at hc
 rw [zp] at hc
 obtain ⟨hc,hk⟩:=hc
 refine ⟨JX,JX,fun j hj=>?_,fun a b hab ha hb=>?_,?_⟩
 · show (mkm (spr g (fun j=>!JF s.1.testBit step j) s.2.testBit) g.1.toNat).testBit j=false
   have h1:(mkm (JF s.1.testBit step) g.1.toNat).testBit j=true:=hj
   rw [yA,zp] at h1
   rw [yA]
   cases e:spr g (fun j=>!JF s.1.testBit step j) s.2.testBit j with
   | false=>rw [Bool.and_false]
   | true=>
     unfold spr at e
     obtain ⟨y,hy,h⟩:=xN.1 e
     simp only [zp] at h
     have:=Jh (p:=fun j=>!JF s.1.testBit step j) h.1.2 h.2
     simp only [h1.2] at this
     cases this
 · show (mkm (spr g (fun j=>!JF s.1.testBit step j) s.2.testBit) g.1.toNat).testBit b=true
   have h1:(mkm (spr g (fun j=>!JF s.1.testBit step j) s.2.testBit) g.1.toNat).testBit a=true:=ha
   have h2:(mkm (JF s.1.testBit step) g.1.toNat).testBit b=false:=hb
   have hl:=Un hg hab
   have hbn:b < g.1.toNat:=by omega
   rw [yA,zw hbn,z6] at h2 ⊢
   rw [yA,zp] at h1
   obtain ⟨_,e⟩:=h1
   unfold spr at e ⊢
   obtain ⟨y,hy,h⟩:=xN.1 e
   refine xN.2 ⟨y,hy,?_⟩
   simp only [zp] at h ⊢
   refine ⟨h.1,xj hg hy h.1.2 h.2 ?_ hab⟩
   simp only [h2];rfl
 · show ((xC (mkm (JF s.1.testBit step) g.1.toNat).testBit g.1.toNat:Nat):Int)≤k
   have e1:xC (mkm (JF s.1.testBit step) g.1.toNat).testBit g.1.toNat=xC (JF s.1.testBit step) g.1.toNat:=Yf fun j hj=>by rw [yA,zw hj,z6]
   rw [e1]
   have hsz:=hs.sz
   unfold pcN at hsz hk
   by_cases h:step < 0
   · have:=K9 (p:=JF s.1.testBit step) (q:=s.1.testBit) (n:=g.1.toNat) fun j _ hj=>zj7 h hj
     omega
   · obtain ⟨h1,h2⟩:=zdM (by omega) hc
     have e2:xC (JF s.1.testBit step) g.1.toNat=xC s.1.testBit g.1.toNat + 1:=by
      rw [← JH h2 h1]
      exact Yf fun j _=>zdO (by omega) j
     rw [zw (show step≥0 by omega),z6,yT,wv] at hk
     omega
theorem zfa {g:Gr} (hg:y0 g=true) {k:Int} (hk:0≤k) {s:Nat×Nat} (h:Rch g k s):Gst g k s:=by
 induction h with
 | init=>exact zir hg hk
 | step _ hc ih=>exact ziO hg ih hc
end Go.Zq
