/- Plain mathematics: what the functions answer (part 2). Conditions: stated in each theorem. -/
import Derived.Test.YtelahampjnaimabM1
set_option linter.unusedVariables false
set_option linter.unusedSimpArgs false
namespace Go.Zq
def spr (g:Gr) (f u:Nat→Bool) (j:Nat):Bool:=ui (fun y=>u y && f y && ZU g f y j) g.1.toNat
def KR (step:Int):Int:=if step < 0 then -1 - step else step
def zno (n:Nat) (p:Nat→Bool) (step:Int):Bool:=decide (KR step < n) && (p (KR step).toNat == decide (step < 0))
def UT (p:Nat→Bool) (step:Int) (j:Nat):Bool:=if step < 0 then p j && !(j == (KR step).toNat) else p j || j == (KR step).toNat
theorem Mc {p:Nat→Bool} {n:Nat}:xc p n=0↔Z8 p n=none:=by
 rw [uM]
 constructor
 · intro h j hj
   cases hp:p j with
   | false=>rfl
   | true=>
     have:=zap (p:=fun _=>false) (q:=p) (n:=n) (by simp) ⟨j,hj,rfl,hp⟩
     omega
 · intro h
   rw [vT (q:=fun _=>false) h]
   unfold xc
   rw [List.countP_eq_zero];simp
structure Bg (F:Nat) (bags:List (List Int)):Prop where
 len:bags.length≤1048576
 each:∀ x∈bags,x.length≤1048576
 fuel:1048577≤F
theorem Bg.at {F:Nat} {bags:List (List Int)} (h:Bg F bags) {i:Nat} (hi:i < bags.length):(bags.getD i []).length≤1048576:=h.each _ (wN hi)
theorem Bg.of {F:Nat} {bags:List (List Int)} (h:bags.length + zdH bags bags.length≤1048576) (hF:1048577≤F):Bg F bags:=by
 refine ⟨by omega,fun x hx=>?_,hF⟩
 obtain ⟨i,hi,e⟩:=w4.1 hx
 have:=zj4 hi
 rw [zM,z9 hi,yd,e] at this
 omega
def bq (l:List Int) (j:Nat):Bool:=decide ((j:Int)∈l)
theorem W0 {g:Gr} {a b i:Nat}:ur g a b i=true↔((g.2.getD i (0,0)).1=a∧(g.2.getD i (0,0)).2=b)∨((g.2.getD i (0,0)).1=b∧(g.2.getD i (0,0)).2=a):=by
 unfold ur
 simp only [yB,zl,yC]
structure zpb (T:Gr) (p:Nat→Bool) (x:Nat) (seen:List Int):Prop where
 nd:seen.Nodup
 inn:∀ y∈seen,∃ j:Nat,y=j∧j < T.1.toNat∧ZU T p x j=true
 root:(x:Int)∈seen
theorem MO {T:Gr} {p:Nat→Bool} {x:Nat} {seen:List Int} (hT:yT T=true) (h:zpb T p x seen):seen.length≤8:=by
 have h8:=zT hT
 have:=Lm T.1.toNat seen h.nd (fun y hy=>by obtain ⟨j,rfl,h1,_⟩:=h.inn y hy;omega)
 omega
def wth (m x:Nat) (j:Nat):Bool:=m.testBit j || j == x
def wz (g:Gr) (m x:Nat) (j:Nat):Bool:=(!m.testBit j && !(j == x)) && ui (fun y=>ZU g (wth m x) x y && adj g y j) g.1.toNat
def elC (g:Gr) (m x:Nat):Int:=(xc (wz g m x) g.1.toNat:Int)
theorem QD {F x:Nat} {g:Gr} (hg:yT g=true) (hF:20≤F) (hG:g.2.length < F) (hs:Sm g.2.length):wi F g (x:Int)=some (zP (adj g x) g.1.toNat):=by
 have h8:=zT hg
 unfold wi
 refine XB (L:=fun k i s=>y3 F (x:Int) g k s i) (n:=g.1.toNat) (fun i s=>s=zP (adj g x) i) ?_ ?_ F _ (by omega) rfl
 · intro k i s hi hI
   subst hI
   refine ⟨_,rfl,?_⟩
   have hc:=YP (p:=adj g x) (n:=i)
   simp only [y3,vA]
   rw [zw (show (i:Int) < g.1 by omega),zj,LZ hG hs,zb,yl hi (by unfold Sm;omega),Xa]
   cases adj g x i with
   | true=>rw [zj,XC (by rw [wt];omega),zb];rfl
   | false=>rw [zk];simp
 · intro k s hI
   subst hI
   simp only [y3]
   rw [zJ (show ¬ (g.1.toNat:Int) < g.1 by omega),zk]
structure Lat (g:Gr) (m x:Nat) (q:Nat→Bool) (seen:List Int):Prop where
 sn:zpb g (wth m x) x seen
 qin:∀ j,q j=true→wz g m x j=true
def Fnd (m x:Nat) (q:Nat→Bool) (seen:List Int) (ns:List Int):Prop:=∀ z:Nat,(z:Int)∈ns→(wth m x z=true→(z:Int)∈seen)∧(wth m x z=false→q z=true)
theorem zhw {F:Nat} {g:Gr} {m x k:Nat} {q:Nat→Bool} {seen:List Int} {c:List Int→List Int→Int→Option (List Int)} (hg:yT g=true) (hF:20≤F) (hm:m < 2 ^ g.1.toNat) (hx:x < g.1.toNat) (hk:k < seen.length) (hS:Lat g m x q seen) {y:Nat} (hy:seen.getD k 0=(y:Int)) :
    ∃ q' ext,Lat g m x q' (seen++ext)∧Fnd m x q' (seen++ext) (zP (adj g y) g.1.toNat)∧(∀ j,q j=true→q' j=true) ∧
     xw F (zP m.testBit g.1.toNat) g (k:Int) (zP (adj g y) g.1.toNat) c F (zP q g.1.toNat) seen 0=c (zP q' g.1.toNat) (seen++ext) ((k + 1:Nat):Int):=by
 have h8:=zT hg
 have hn8:(zP (adj g y) g.1.toNat).length≤8:=by rw [wt];exact wT YP (by omega)
 obtain ⟨y',hy',hyn,hyc⟩:=hS.sn.inn _ (wN (d:=0) hk)
 rw [hy] at hy'
 obtain rfl:y=y':=by omega
 obtain ⟨s,⟨q',ext,hs,h1,h2,h3⟩,h4⟩:=YJ (L:=fun k2 i (s:List Int×List Int)=>xw F (zP m.testBit g.1.toNat) g (k:Int) (zP (adj g y) g.1.toNat) c k2 s.1 s.2 i) (n:=(zP (adj g y) g.1.toNat).length)
  (fun i s=>∃ q' ext,s=(zP q' g.1.toNat,seen++ext)∧Lat g m x q' (seen++ext)∧Fnd m x q' (seen++ext) ((zP (adj g y) g.1.toNat).take i)∧(∀ j,q j=true→q' j=true)) (fin:=fun s=>c s.1 s.2 ((k + 1:Nat):Int)) (by
    rintro k2 i s hi ⟨q',ext,rfl,hL,hFn,hq⟩
    have hlen:=MO hg hL.sn
    obtain ⟨z,hz,hzn,hza⟩:=uV hi
    have htake:(zP (adj g y) g.1.toNat).take (i + 1)=(zP (adj g y) g.1.toNat).take i++[(z:Int)]:=by
     rw [List.take_add_one,z9 hi]
     rw [zM,z9 hi,yd] at hz
     rw [hz];rfl
    have hstep:∀ (q2:Nat→Bool) (s2:List Int),(∀ j,q' j=true→q2 j=true)→(∀ w,w∈seen++ext→w∈s2)→(wth m x z=true→(z:Int)∈s2)→(wth m x z=false→q2 z=true)→Fnd m x q2 s2 ((zP (adj g y) g.1.toNat).take (i + 1)):=by
     intro q2 s2 a1 a2 a3 a4 w hw
     rw [htake,zG] at hw
     rcases hw with hw | hw
     · exact ⟨fun h=>a2 _ ((hFn w hw).1 h),fun h=>a1 _ ((hFn w hw).2 h)⟩
     · simp only [xX] at hw
       obtain rfl:w=z:=by omega
       exact ⟨a3,a4⟩
    simp only [xw,YD]
    rw [zw (show (i:Int) < ((zP (adj g y) g.1.toNat).length:Int) by omega),zj,yf (d:=0) hi,hz]
    simp only [zb]
    rw [Wn (by omega) (by unfold Sm;omega),zfO (by omega) hzn (by omega),zmH (by omega) hzn (by omega),yl hi (by unfold Sm;omega)]
    simp only [zb]
    by_cases hm1:(z:Int)∈seen++ext
    · refine ⟨_,⟨q',ext,rfl,hL,hstep q' _ (fun _ h=>h) (fun _ h=>h) (fun _=>hm1) (fun h=>?_),hq⟩,by rw [zw hm1,zj]⟩
      obtain ⟨z',e,_,hc⟩:=hL.sn.inn _ hm1
      obtain rfl:z=z':=by omega
      have:=Qy (p:=wth m x) (show wth m x x=true by unfold wth;simp) hc
      rw [this] at h;cases h
    · rw [zJ hm1,zk]
      have hzx:z≠x:=fun e=>hm1 (by rw [e,zG];exact .inl hS.sn.root)
      cases hb:m.testBit z with
      | true=>
        have hw:wth m x z=true:=by unfold wth;rw [hb];rfl
        refine ⟨(zP q' g.1.toNat,seen++ext++[(z:Int)]),⟨q',ext++[(z:Int)],by rw [X2],⟨⟨?_,?_,?_⟩,hL.qin⟩,?_,hq⟩,?_⟩
        · rw [← X2,List.nodup_append]
          refine ⟨hL.sn.nd,by simp,?_⟩
          intro a ha b hb e
          simp only [xX] at hb
          subst hb;subst e;exact hm1 ha
        · intro a ha
          rw [← X2,zG] at ha
          rcases ha with ha | ha
          · exact hL.sn.inn a ha
          · simp only [xX] at ha
            exact ⟨z,ha,hzn,w8 hg hx (by unfold wth;simp) hyc hw hza⟩
        · rw [zG];exact .inl hS.sn.root
        · rw [← X2]
          exact hstep q' _ (fun _ h=>h) (fun w h=>by rw [zG];exact .inl h) (fun _=>by simp) (fun h=>by rw [hw] at h;cases h)
        · rw [zj,XC (by omega),zb]
      | false=>
        have hw:wth m x z=false:=by
         unfold wth
         rw [hb]
         simpa using hzx
        refine ⟨(zP (fun j=>q' j || j == z) g.1.toNat,seen++ext),⟨fun j=>q' j || j == z,ext,rfl,⟨hL.sn,?_⟩,?_,fun j h=>by simp [hq j h]⟩,?_⟩
        · intro j hj
          rw [yB,yC] at hj
          rcases hj with hj | hj
          · exact hL.qin j hj
          · subst hj
            unfold wz
            rw [hb]
            have:(j == x)=false:=by simpa using hzx
            rw [this]
            simp only [vg,wK,yk]
            exact xu.2 ⟨y,hyn,by rw [hyc,hza];rfl⟩
        · exact hstep _ _ (fun j h=>by simp [h]) (fun _ h=>h) (fun h=>by rw [hw] at h;cases h) (fun _=>by simp)
        · rw [zk]) (by
    rintro k2 s ⟨q',ext,rfl,hL,hFn,hq⟩
    have hlen:=MO hg hL.sn
    rw [uU] at hlen
    simp only [xw]
    rw [zJ (show ¬ ((zP (adj g y) g.1.toNat).length:Int) < ((zP (adj g y) g.1.toNat).length:Int) by omega),zk,yl hk (by unfold Sm;omega)]) F (zP q g.1.toNat,seen) (by omega) ⟨q,[],by simp,by simpa using hS,fun z hz=>by simp at hz,fun _ h=>h⟩
 subst hs
 rw [List.take_length] at h2
 exact ⟨q',ext,h1,h2,h3,h4⟩
theorem zf9 {F:Nat} {g:Gr} {m x:Nat} (hg:yT g=true) (hF:20≤F) (hG:g.2.length < F) (hs:Sm g.2.length) (hm:m < 2 ^ g.1.toNat) (hx:x < g.1.toNat) :
    ∀ (d fu k:Nat) (q:Nat→Bool) (seen:List Int),k + d=9→d < fu→k≤seen.length→Lat g m x q seen→(∀ t,t < k→∀ y:Nat,seen.getD t 0=(y:Int)→Fnd m x q seen (zP (adj g y) g.1.toNat)) →
     wn F (zP m.testBit g.1.toNat) g fu (zP q g.1.toNat) seen (k:Int)=some (zP (wz g m x) g.1.toNat):=by
 intro d
 induction d with
 | zero=>
   intro fu k q seen hk hd hl hS hC
   have:=MO hg hS.sn
   omega
 | succ d ih=>
   intro fu k q seen hk hd hl hS hC
   obtain ⟨fu,rfl⟩:∃ f,fu=f + 1:=⟨fu - 1,by omega⟩
   simp only [wn]
   by_cases hlt:k < seen.length
   · obtain ⟨y,hy,hyn,hyc⟩:=hS.sn.inn _ (wN (d:=0) hlt)
     obtain ⟨q',ext,h1,h2,h3,h4⟩:=zhw (c:=wn F (zP m.testBit g.1.toNat) g fu) hg hF hm hx hlt hS hy
     rw [zw (show (k:Int) < (seen.length:Int) by omega),zj,yf (d:=0) hlt,zb,hy,QD hg hF hG hs,zb,h4]
     refine ih fu (k + 1) q' (seen++ext) (by omega) (by omega) (by rw [uU];omega) h1 ?_
     intro t ht w hw
     have hget:(seen++ext).getD t 0=seen.getD t 0:=by
      rw [zM,List.getElem?_append_left (by omega),← zM]
     rw [hget] at hw
     by_cases e:t=k
     · subst e
       rw [hy] at hw
       obtain rfl:y=w:=by omega
       exact h2
     · intro z hz
       have:=hC t (by omega) w hw z hz
       exact ⟨fun h=>by rw [zG];exact .inl (this.1 h),fun h=>h3 _ (this.2 h)⟩
   · obtain rfl:k=seen.length:=by omega
     rw [zJ (show ¬ (seen.length:Int) < (seen.length:Int) by omega),zk]
     congr 1
     apply zcD
     intro j hj
     have hxp:wth m x x=true:=by unfold wth;simp
     have hsub:∀ b,ZU g (wth m x) x b=true→(b:Int)∈seen:=by
      intro b hb
      refine of_decide_eq_true (XF (C:=fun j=>decide ((j:Int)∈seen)) (zw hS.sn.root) ?_ hb)
      intro y b hy hb ha
      have hy':=of_decide_eq_true hy
      obtain ⟨t,ht,e⟩:=w4.1 hy'
      have hget:seen.getD t 0=(y:Int):=by rw [zM,z9 ht,yd,e]
      have hbn:=(Uv hg ha).2.1
      exact zw ((hC t ht y hget b (wJ.2 ⟨b,rfl,by omega,ha⟩)).1 hb)
     cases hq:q j with
     | true=>exact (hS.qin j hq).symm
     | false=>
       cases hl:wz g m x j with
       | false=>rfl
       | true=>
         exfalso
         unfold wz at hl
         simp only [zl,xk] at hl
         obtain ⟨⟨l1,l2⟩,l3⟩:=hl
         obtain ⟨y,hyn,hy⟩:=xu.1 l3
         simp only [zl] at hy
         obtain ⟨t,ht,e⟩:=w4.1 (hsub y hy.1)
         have hget:seen.getD t 0=(y:Int):=by rw [zM,z9 ht,yd,e]
         have:=(hC t ht y hget j (wJ.2 ⟨j,rfl,hj,hy.2⟩)).2 (by unfold wth;rw [l1,l2];rfl)
         rw [this] at hq;cases hq
theorem zi3 {F:Nat} {g:Gr} {m x:Nat} (hg:yT g=true) (hF:20≤F) (hG:g.2.length < F) (hs:Sm g.2.length) (hm:m < 2 ^ g.1.toNat) (hx:x < g.1.toNat) :
    Y9 F g (zP m.testBit g.1.toNat) (x:Int)=some (zP (wz g m x) g.1.toNat):=by
 unfold Y9
 have hnil:([]:List Int)=zP (fun _=>false) g.1.toNat:=by simp [zP]
 have:=zf9 (F:=F) hg hF hG hs hm hx 9 F 0 (fun _=>false) [(x:Int)] (by omega) (by omega) (by omega) ⟨⟨by simp,fun y hy=>by
  simp only [xX] at hy
  exact ⟨x,hy,hx,vh⟩,by simp⟩,fun j h=>by cases h⟩ (fun t ht=>absurd ht (by omega))
 rw [← hnil] at this
 exact this
def rdP (g:Gr) (m x:Nat):Nat→Nat→Bool
 | 0=>fun j=>j == x
 | t + 1=>K1 g (rch g (wth m x) x t)
theorem QP {g:Gr} {m x:Nat}:∀ t j,(rdP g m x t j && wth m x j)=rch g (wth m x) x t j
 | 0,j=>by
   show ((j == x) && wth m x j)=(j == x)
   unfold wth
   cases (j == x) <;> simp
 | t + 1,j=>by
   show (K1 g (rch g (wth m x) x t) j && wth m x j)=stp g (wth m x) (rch g (wth m x) x t) j
   unfold K1 stp
   have hin:=fun h=>Q2 (g:=g) (p:=wth m x) (x:=x) (show wth m x x=true by unfold wth;simp) t j h
   cases h1:rch g (wth m x) x t j with
   | true=>rw [hin h1];rfl
   | false=>rw [ZG,ZG,Bool.and_comm]
theorem zjA {F:Nat} {g:Gr} {m x:Nat} (hg:yT g=true) (hF:20≤F) (hm:m < 2 ^ g.1.toNat) (hx:x < g.1.toNat):wU F ⟨xP g⟩ (m:Int) (x:Int)=some (elC g m x):=by
 have h8:=zT hg
 have h256:=zlu (by omega) hm
 have hxp:wth m x x=true:=by unfold wth;simp
 obtain ⟨T,hT,hst⟩:=MD hg hx hxp
 have hcn:=YP (p:=wth m x) (n:=g.1.toNat)
 have hmx:(ior .i64 (m:Int) ((2 ^ x:Nat):Int))=((mkm (wth m x) g.1.toNat:Nat):Int):=by
  rw [WH (by omega) (Ya (by omega))]
  congr 1
  refine uu fun j=>?_
  rw [vC,xW]
  unfold wth
  by_cases hj:j < g.1.toNat
  · rw [zw hj,yk]
    congr 1
    rw [yQ,ye,yC];omega
  · rw [zJ hj,um,zJ (show ¬ x=j by omega),Bool.or_false]
    exact Nat.testBit_lt_two_pow (uy hm (vE (by decide) (by omega)))
 unfold wU
 rw [vq (by omega),zb]
 have hstart:((2 ^ x:Nat):Int)=((mkm (rdP g m x 0) g.1.toNat:Nat):Int):=by
  congr 1
  refine uu fun j=>?_
  rw [xW]
  show decide (x=j)=(decide (j < g.1.toNat) && (j == x))
  by_cases e:j=x
  · subst e;simp [hx]
  · have e1:(j == x)=false:=by simpa using e
    rw [e1,Bool.and_false,zJ (by omega)]
 have hend:∀ t,(∀ j,j < g.1.toNat→rdP g m x (t + 1) j=rdP g m x t j)→∀ j,j < g.1.toNat→(rdP g m x t j && !m.testBit j && !(j == x))=wz g m x j:=by
  intro t he j hj
  have hstab:∀ j,rch g (wth m x) x (t + 1) j=true→rch g (wth m x) x t j=true:=by
   intro j hj
   have hjn:=zan hg hx _ _ hj
   rw [← QP,he j hjn,QP] at hj;exact hj
  have hcomp:∀ j,rch g (wth m x) x t j=ZU g (wth m x) x j:=by
   intro j
   rw [yQ]
   constructor
   · intro h
     by_cases hle:t≤g.1.toNat
     · exact Uj h _ hle
     · have:rch g (wth m x) x (g.1.toNat + (t - g.1.toNat)) j=true:=by
        rw [show g.1.toNat + (t - g.1.toNat)=t by omega];exact h
       have h2:=zcd hg hx hxp (s:=t) (by omega) j
       rw [← h2];exact h
   · intro h
     have h3:rch g (wth m x) x (t + g.1.toNat) j=true:=Uj h _ (by omega)
     exact Kx hstab _ j h3
  rw [← he j hj]
  show (K1 g (rch g (wth m x) x t) j && !m.testBit j && !(j == x))=wz g m x j
  unfold K1 wz
  have hany:ui (fun y=>rch g (wth m x) x t y && adj g y j) g.1.toNat=ui (fun y=>ZU g (wth m x) x y && adj g y j) g.1.toNat:=J7 fun y _=>by rw [hcomp y]
  rw [hany,hcomp j]
  cases hb:m.testBit j with
  | true=>simp
  | false=>
    cases hjx:(j == x) with
    | true=>simp
    | false=>
      have:ZU g (wth m x) x j=false:=by
       rw [Bool.eq_false_iff];intro h
       have:=Qy hxp h
       unfold wth at this
       rw [hb,hjx] at this;cases this
      rw [this];simp
 have key:∀ d t k,t + d=T + 1→d < k→wc F (m:Int) (x:Int) ⟨xP g⟩ k ((mkm (rdP g m x t) g.1.toNat:Nat):Int)=some (elC g m x):=by
  intro d
  induction d with
  | zero=>
    intro t k ht hk
    obtain ⟨k,rfl⟩:∃ k',k=k' + 1:=⟨k - 1,by omega⟩
    obtain rfl:t=T + 1:=by omega
    have hsame:∀ j,j < g.1.toNat→rdP g m x (T + 1 + 1) j=rdP g m x (T + 1) j:=by
     intro j _
     have hrr:∀ j,rch g (wth m x) x (T + 1) j=rch g (wth m x) x T j:=fun j=>by
      rw [yQ];exact ⟨hst j,fun h=>Uj h _ (by omega)⟩
     show K1 g (rch g (wth m x) x (T + 1)) j=K1 g (rch g (wth m x) x T) j
     unfold K1
     rw [hrr j]
     congr 1
     exact J7 fun y _=>by rw [hrr y]
    simp only [wc]
    rw [vq (by omega),zb,hmx,Kp (wC (by omega)) (wC (by omega))]
    have hnext:(mkm (rdP g m x (T + 1)) g.1.toNat &&& mkm (wth m x) g.1.toNat)=mkm (rch g (wth m x) x (T + 1)) g.1.toNat:=by
     refine uu fun j=>?_
     rw [Nat.testBit_and,yy,yy,← QP]
     cases decide (j < g.1.toNat) <;> simp
    rw [hnext,NU hg (by omega),zb]
    have heq:((mkm (K1 g (rch g (wth m x) x (T + 1))) g.1.toNat:Nat):Int)=((mkm (rdP g m x (T + 1)) g.1.toNat:Nat):Int):=by
     congr 1
     exact Zx fun j hj=>hsame j hj
    rw [heq,Yw,zj,zb]
    obtain ⟨c1,e1,l1,b1⟩:=Zg (wC (p:=rdP g m x (T + 1)) (n:=g.1.toNat) (by omega)) (show m < 9223372036854775808 by omega)
    have hml:=QA (p:=rdP g m x (T + 1)) (n:=g.1.toNat) (by omega)
    obtain ⟨c2,e2,l2,b2⟩:=Zg (a:=c1) (show c1 < 9223372036854775808 by omega) (Ya (j:=x) (by omega))
    rw [e1,e2,zak (by omega),zb]
    congr 2
    have hc2:c2=mkm (wz g m x) g.1.toNat:=by
     refine uu fun j=>?_
     rw [b2,b1,yy,xW]
     by_cases hj:j < g.1.toNat
     · rw [zw hj,yk,yk,← hend (T + 1) hsame j hj]
       congr 2
       rw [yQ,ye,yC];omega
     · rw [zJ hj];rfl
    rw [hc2,ML (by omega)]
  | succ d ih=>
    intro t k ht hk
    obtain ⟨k,rfl⟩:∃ k',k=k' + 1:=⟨k - 1,by omega⟩
    simp only [wc]
    rw [vq (by omega),zb,hmx,Kp (wC (by omega)) (wC (by omega))]
    have hnext:(mkm (rdP g m x t) g.1.toNat &&& mkm (wth m x) g.1.toNat)=mkm (rch g (wth m x) x t) g.1.toNat:=by
     refine uu fun j=>?_
     rw [Nat.testBit_and,yy,yy,← QP]
     cases decide (j < g.1.toNat) <;> simp
    rw [hnext,NU hg (by omega),zb]
    by_cases hE:mkm (K1 g (rch g (wth m x) x t)) g.1.toNat=mkm (rdP g m x t) g.1.toNat
    · have hsame:∀ j,j < g.1.toNat→rdP g m x (t + 1) j=rdP g m x t j:=fun j hj=>zjY hE j hj
      rw [hE,Yw,zj,zb]
      obtain ⟨c1,e1,l1,b1⟩:=Zg (wC (p:=rdP g m x t) (n:=g.1.toNat) (by omega)) (show m < 9223372036854775808 by omega)
      have hml:=QA (p:=rdP g m x t) (n:=g.1.toNat) (by omega)
      obtain ⟨c2,e2,l2,b2⟩:=Zg (a:=c1) (show c1 < 9223372036854775808 by omega) (Ya (j:=x) (by omega))
      rw [e1,e2,zak (by omega),zb]
      congr 2
      have hc2:c2=mkm (wz g m x) g.1.toNat:=by
       refine uu fun j=>?_
       rw [b2,b1,yy,xW]
       by_cases hj:j < g.1.toNat
       · rw [zw hj,yk,yk,← hend t hsame j hj]
         congr 2
         rw [yQ,ye,yC];omega
       · rw [zJ hj];rfl
      rw [hc2,ML (by omega)]
    · have hb:(((mkm (K1 g (rch g (wth m x) x t)) g.1.toNat:Nat):Int) == ((mkm (rdP g m x t) g.1.toNat:Nat):Int))=false:=by
       rw [beq_eq_false_iff_ne];omega
      rw [hb,zk]
      exact ih (t + 1) k (by omega) (by omega)
 have:=key (T + 1) 0 F (by omega) (by omega)
 rw [hstart]
 exact this
theorem zdR {g:Gr} (hg:yT g=true) {p:Nat→Bool} {x y z:Nat} (hx:x < g.1.toNat) (hp:p x=true) (h1:ZU g p x y=true) (h2:ZU g p y z=true):ZU g p x z=true:=
 XF (C:=ZU g p x) h1 (fun _ _ h3 h4 h5=>w8 hg hx hp h3 h4 h5) h2
theorem zgt {α β:Type} {f:α→β} {a:Option β} {b:Option α} {r:β} (h:a=b.map f) (hr:a=some r):∃ o,b=some o∧f o=r:=by
 rw [hr] at h
 cases b with
 | none=>cases h
 | some o=>simp at h;exact ⟨o,rfl,h.symm⟩
theorem W8 {α β:Type} {f:α→β} {t:Bool} {a b:Option α}:(bif t then a else b).map f=bif t then a.map f else b.map f:=by cases t <;> rfl
theorem Ki {F:Nat} {s:Int}:∀ (k:Nat) (l:NL Int) (i:Int),vl F s k l i=(vp F s k l i).map NL.list
 | 0,l,i=>rfl
 | k + 1,l,i=>by
   simp only [vl,vp,Y2,YN,Option.map_bind,W8,Ki k,Function.comp_def,ym]
theorem zdo {F n:Nat} {p:Nat→Bool} (hn:n≤8) (hF:20≤F):∃ o,X8 F ((mkm p n:Nat):Int)=some o∧o.list=zP p n:=
 zgt (Ki F .nil 0) (WV hn hF)
theorem Ww {p:Nat→Bool} {n:Nat}:(zP p n).length≤n:=by rw [wt];exact YP
theorem Zo {n:Int} {l:List Int} (h:xb n l=true) (h0:0≤n):∀ y∈l,0≤y∧y < n:=by
 have hl:=vS h
 have:=(JT n.toNat l (fun j hj=>Uk h (by omega) (by omega))).2 (by omega)
 intro y hy
 have:=this y hy
 omega
theorem zh2 {A:Nat→Bool} {n a:Nat} (hn:n≤8) (ha:a < n):zY .i64 ((mkm A n:Nat):Int) ((2 ^ a:Nat):Int)=((mkm (fun j=>A j && !(j == a)) n:Nat):Int):=by
 obtain ⟨c,hc,_,hb⟩:=Zg (wC (p:=A) (n:=n) (by omega)) (Ya (j:=a) (by omega))
 rw [hc]
 congr 1
 apply ZW
 intro j
 rw [hb,yy,yy,xW]
 by_cases e:j=a
 · subst e;simp
 · have e1:(j == a)=false:=by simpa using e
   rw [e1,zJ (show ¬ a=j by omega)]
   simp
theorem KF {A B:Nat→Bool}:∀ n,(zP A n).filter (fun y=>B y.toNat)=zP (fun j=>A j && B j) n
 | 0=>rfl
 | n + 1=>by
   rw [Xa,Xa,List.filter_append,KF n]
   congr 1
   cases h:A n
   · rfl
   · simp only [yk,if_true,List.filter_cons,List.filter_nil,yh]
theorem zqU {l:List Int} {k a:Nat} (hk:k < l.length) (ha:l.getD k 0=(a:Int)):l.take (k + 1)=l.take k++[(a:Int)]:=by
 rw [List.take_add_one]
 rw [zM,z9 hk] at ha
 simp only [yd] at ha
 rw [z9 hk,ha];rfl
theorem zkK {p:Nat→Bool} {n:Nat}:zP p (n + 1)=if p n then zP p n++[(n:Int)] else zP p n:=by
 rw [Xa];cases p n <;> simp
theorem zjq {F x:Nat} {g:Gr} (hg:yT g=true) (hF:20≤F) (hG:g.2.length < F) (hs:Sm g.2.length):wi F g (x:Int)=some (zP (adj g x) g.1.toNat):=by
 have h8:=zT hg
 unfold wi
 refine XB (L:=fun k t s=>y3 F (x:Int) g k s t) (n:=g.1.toNat) (fun t s=>s=zP (adj g x) t) ?_ ?_ F [] (by omega) rfl
 · rintro k t s ht rfl
   refine ⟨_,rfl,?_⟩
   have hle:=Ww (p:=adj g x) (n:=t)
   simp only [y3,vA]
   rw [zw (show (t:Int) < g.1 by omega),zj,LZ hG hs,zb,yl ht (by unfold Sm;omega),zkK]
   cases adj g x t with
   | true=>rw [zj,XC (by omega),zb];rfl
   | false=>rfl
 · rintro k s rfl
   simp only [y3]
   rw [zJ (show ¬ (g.1.toNat:Int) < g.1 by omega),zk]
theorem zf5 {p q:Nat→Bool}:∀ n,xc p n=xc (fun j=>q j && p j) n + xc (fun j=>p j && !q j) n:=by
 intro n
 rw [Xm,Xm,Xm,← zef]
 refine JL fun i _=>?_
 cases p i <;> cases q i <;> rfl
theorem zhE {p:Nat→Bool} {n:Nat}:(((mkm p n:Nat):Int) != 0)=ui p n:=by
 rw [yQ,bne_iff_ne,xu]
 constructor
 · intro h
   have hne:mkm p n≠0:=by exact_mod_cast h
   obtain ⟨i,hi⟩:=Nat.exists_testBit_of_ne_zero hne
   rw [yy] at hi
   simp only [zl,ye] at hi
   exact ⟨i,hi.1,hi.2⟩
 · rintro ⟨i,h1,h2⟩ h
   have:(mkm p n).testBit i=true:=by rw [yy,zw h1,h2];rfl
   have h0:mkm p n=0:=by exact_mod_cast h
   rw [h0] at this;simp at this
def zs9 (l:List Int) (r:Int) (j:Nat):Bool:=decide (l.getD j 0≤r)
def zu3 (g:Gr) (l:List Int) (x:Nat):Bool:=ui (fun y=>ZU g (zs9 l (l.getD x 0)) x y && ((y != x) && (l.getD y 0 == l.getD x 0))) g.1.toNat
theorem zc8 {p q:Nat→Bool} {n:Nat}:ui (fun i=>q ((zP p n).getD i 0).toNat) (zP p n).length=ui (fun j=>p j && q j) n:=by
 rw [yQ,xu,xu]
 constructor
 · rintro ⟨i,hi,h⟩
   obtain ⟨a,ha,han,hap⟩:=uV hi
   rw [ha,yh] at h
   exact ⟨a,han,by rw [hap,h];rfl⟩
 · rintro ⟨j,hj,h⟩
   simp only [zl] at h
   have hm:(j:Int)∈zP p n:=wJ.2 ⟨j,rfl,hj,h.1⟩
   obtain ⟨i,hi,e⟩:=List.getElem_of_mem hm
   refine ⟨i,hi,?_⟩
   rw [zM,z9 hi,yd,e,yh]
   exact h.2
end Go.Zq
