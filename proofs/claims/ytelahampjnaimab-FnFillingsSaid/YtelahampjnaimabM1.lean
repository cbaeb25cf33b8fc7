/- Plain mathematics: what the functions answer (part 1). Conditions: stated in each theorem. -/
import Derived.Test.YtelahampjnaimabK3
import Derived.Test.YtelahampjnaimabGT
set_option linter.unusedVariables false
set_option linter.unusedSimpArgs false
namespace Go.Zq
def Y6 (F:Nat) (x_1:(List Int)) (x_2:Int) (x_6:Int)  (x_13:Bool):Option (List Int):=
 bif x_13 then
  some x_1
 else
  (sub x_1 0 x_6).bind fun sub_14=>
  (vL [] sub_14).bind fun ap_15=>
  (vL ap_15 [x_2]).bind fun ap_16=>
  (sub x_1 x_6 (x_1.length:Int)).bind fun sub_17=>
  (vL ap_16 sub_17).bind fun ap_18=>
  some ap_18
def Y5 (F:Nat) (x_1:(List Int)) (x_2:Int) (x_6:Int) (c1:Int→Option (List Int)) (x_11:Bool):Option (List Int):=
 bif x_11 then
  c1 (w64 (x_6 + 1))
 else
  bif decide (x_6 < (x_1.length:Int)) then
   (idx x_1 x_6).bind fun e_19=>
   Y6 F x_1 x_2 x_6 (e_19 == x_2)
  else
   Y6 F x_1 x_2 x_6 false
def uK (F:Nat) (x_1:(List Int)) (x_2:Int) :Nat→Int→Option (List Int)
 | 0,_=>none
 | k + 1,x_6=>
   bif decide (x_6 < (x_1.length:Int)) then
    (idx x_1 x_6).bind fun e_20=>
    Y5 F x_1 x_2 x_6 (uK F x_1 x_2 k) (decide (e_20 < x_2))
   else
    Y5 F x_1 x_2 x_6 (uK F x_1 x_2 k) false
def JC (F:Nat) (x_1:(List Int)) (x_2:Int):Option (List Int):=
 uK F x_1 x_2 F 0
def YD (F:Nat) (x_2:(List Int)) (x_1:(Int×(List (Int×Int)))) (x_53:Int) (r_102:(List Int)) (x_119:Int) (c1:(List Int)→(List Int)→Int→Option (List Int)) (c4:(List Int)→(List Int)→Int→Option (List Int)) (x_142:(List Int)) (x_143:(List Int)):Option (List Int):=
 c4 x_142 x_143 (w64 (x_119 + 1))
def xw (F:Nat) (x_2:(List Int)) (x_1:(Int×(List (Int×Int)))) (x_53:Int) (r_102:(List Int)) (c1:(List Int)→(List Int)→Int→Option (List Int)):Nat→(List Int)→(List Int)→Int→Option (List Int)
 | 0,_,_,_=>none
 | k + 1,x_117,x_118,x_119=>
   bif decide (x_119 < (r_102.length:Int)) then
    (idx r_102 x_119).bind fun e_134=>
    (ul F x_118 e_134).bind fun r_135=>
    bif r_135 then
     (xw F x_2 x_1 x_53 r_102 c1 k) x_117 x_118 (w64 (x_119 + 1))
    else
     (idx r_102 x_119).bind fun e_136=>
     (ul F x_2 e_136).bind fun r_137=>
     bif r_137 then
      (idx r_102 x_119).bind fun e_144=>
      (vL x_118 [e_144]).bind fun ap_145=>
      YD F x_2 x_1 x_53 r_102 x_119 c1 (xw F x_2 x_1 x_53 r_102 c1 k) x_117 ap_145
     else
      (idx r_102 x_119).bind fun e_146=>
      (JC F x_117 e_146).bind fun r_147=>
      YD F x_2 x_1 x_53 r_102 x_119 c1 (xw F x_2 x_1 x_53 r_102 c1 k) r_147 x_118
   else
    c1 x_117 x_118 (w64 (x_53 + 1))
def wn (F:Nat) (x_2:(List Int)) (x_1:(Int×(List (Int×Int)))) :Nat→(List Int)→(List Int)→Int→Option (List Int)
 | 0,_,_,_=>none
 | k + 1,x_51,x_52,x_53=>
   bif decide (x_53 < (x_52.length:Int)) then
    (idx x_52 x_53).bind fun e_101=>
    (wi F x_1 e_101).bind fun r_102=>
    xw F x_2 x_1 x_53 r_102 (wn F x_2 x_1 k) F x_51 x_52 0
   else
    some x_51
def Y9 (F:Nat) (x_1:(Int×(List (Int×Int)))) (x_2:(List Int)) (x_3:Int):Option (List Int):=
 wn F x_2 x_1 F [] [x_3] 0
def wy (F:Nat) (x_1:Int) (x_2:(Cl 55 ((S1 (List Int))×Unit) Unit)) (x_18:Int) (x_38:Int) (c1:(NL (Int×Int))→Int→Option (Int×(NL (Int×Int)))) (c4:(NL (Int×Int))→Int→Option (Int×(NL (Int×Int)))) (x_45:(NL (Int×Int))):Option (Int×(NL (Int×Int))):=
 c4 x_45 (w64 (x_38 + 1))
def yJ (F:Nat) (x_1:Int) (x_2:(Cl 55 ((S1 (List Int))×Unit) Unit)) (x_18:Int) (c1:(NL (Int×Int))→Int→Option (Int×(NL (Int×Int)))):Nat→(NL (Int×Int))→Int→Option (Int×(NL (Int×Int)))
 | 0,_,_=>none
 | k + 1,x_37,x_38=>
   bif decide (x_38 < x_1) then
    (Yo F x_2.fs.1 x_18 x_38).bind fun r_43=>
    bif r_43 then
     (vL x_37.list [(x_18,x_38)]).bind fun ap_46=>
     wy F x_1 x_2 x_18 x_38 c1 (yJ F x_1 x_2 x_18 c1 k) (.of ap_46)
    else
     wy F x_1 x_2 x_18 x_38 c1 (yJ F x_1 x_2 x_18 c1 k) x_37
   else
    c1 x_37 (w64 (x_18 + 1))
def yw (F:Nat) (x_1:Int) (x_2:(Cl 55 ((S1 (List Int))×Unit) Unit)) :Nat→(NL (Int×Int))→Int→Option (Int×(NL (Int×Int)))
 | 0,_,_=>none
 | k + 1,x_17,x_18=>
   bif decide (x_18 < x_1) then
    yJ F x_1 x_2 x_18 (yw F x_1 x_2 k) F x_17 (w64 (x_18 + 1))
   else
    some (x_1,x_17)
def uc (F:Nat) (x_1:Int) (x_2:(Cl 55 ((S1 (List Int))×Unit) Unit)):Option (Int×(NL (Int×Int))):=
 yw F x_1 x_2 F .nil 0
def Xj (F:Nat) (x_1:(S1 (List Int))):Option (Int×(NL (Int×Int))):=
 (Z6 F x_1).bind fun r_2=>
 (uc F r_2 (Cl.mk (x_1,()) ():(Cl 55 ((S1 (List Int))×Unit) Unit))).bind fun r_3=>
 some (r_3.1,r_3.2)
def ZE (F:Nat) (x_2:(List Int)) (x_1:(Int×(List (Int×Int))))  (x_5:Bool):Option ((Int×(NL (Int×Int)))×Bool):=
 bif x_5 then
  some ((0,.nil),false)
 else
  (ZO F x_1).bind fun r_6=>
  (wj F r_6 x_2).bind fun r_7=>
  (Xj F r_7).bind fun r_8=>
  some ((r_8.1,r_8.2),true)
def Xp (F:Nat) (x_1:(Int×(List (Int×Int)))) (x_2:(List Int)):Option ((Int×(NL (Int×Int)))×Bool):=
 (vy F x_1).bind fun r_9=>
 bif (!r_9) then
  ZE F x_2 x_1 true
 else
  (Zw F x_1 x_2).bind fun r_10=>
  ZE F x_2 x_1 (!r_10)
def xa (F:Nat) (r_3:(S1 (List Int))) :Nat→(NL Int)→Int→Option ((NL Int)×Bool)
 | 0,_,_=>none
 | k + 1,order_11,left_12=>
   bif (left_12 != 0) then
    (uH F left_12).bind fun r_19=>
    (yb F r_19 (Cl.mk () ((Rf.mk r_3:(Rf (S1 (List Int)))),(Rf.mk left_12:(Rf Int)),()):(Cl 35 Unit ((Rf (S1 (List Int)))×(Rf Int)×Unit)))).bind fun r_20=>
    bif decide (r_20 < 0) then
     some (.nil,false)
    else
     (uH F left_12).bind fun r_21=>
     (idx r_21 r_20).bind fun e_22=>
     (vL order_11.list [e_22]).bind fun ap_23=>
     (WZ .i64 1 e_22).bind fun q_24=>
     (xa F r_3 k) (.of ap_23) (zY .i64 left_12 q_24)
   else
    some (order_11,true)
def vr (F:Nat) (g_1:(Int×(List (Int×Int)))):Option ((NL Int)×Bool):=
 (vy F g_1).bind fun r_2=>
 bif (!r_2) then
  some (.nil,false)
 else
  (ZO F g_1).bind fun r_3=>
  (xr F r_3).bind fun r_4=>
  xa F r_3 F .nil r_4
theorem ue {x:Int} (h1:-9223372036854775808≤x) (h2:x < 9223372036854775808):w64 x=x:=by
 show IntKind.wrap .i64 x=x
 simp only [IntKind.wrap,IntKind.bits,IntKind.signed,yk]
 have e1:((2:Int) ^ 64)=18446744073709551616:=by decide
 have e2:((2:Int) ^ (64 - 1))=9223372036854775808:=by decide
 simp only [e1,e2]
 split
 · rename_i h;simp only [ge_iff_le,ye] at h;omega
 · rename_i h;simp only [ge_iff_le,ye] at h;omega
def Sm (n:Nat):Prop:=n≤4611686018427387904
theorem yl {i n:Nat} (hi:i < n) (hn:Sm n):w64 ((i:Int) + 1)=((i + 1:Nat):Int):=by
 unfold Sm at hn
 rw [ue (by omega) (by omega)];omega
theorem zcW {i n:Nat} (h0:0 < i) (hi:i < n) (hn:Sm n):w64 ((i:Int) - 1)=((i - 1:Nat):Int):=by
 unfold Sm at hn
 rw [ue (by omega) (by omega)];omega
theorem Jz {α:Type} {xs:List α} {i:Nat} (h:i < xs.length):idx xs (i:Int)=some xs[i]:=by
 unfold idx
 rw [if_pos (by omega)]
 simp [h]
theorem yf {α:Type} {xs:List α} {i:Nat} {d:α} (h:i < xs.length):idx xs (i:Int)=some (xs.getD i d):=by
 rw [Jz h];simp [h]
def ZH (p:Nat→Bool):Nat→Bool
 | 0=>true
 | n + 1=>ZH p n && p n
def ui (p:Nat→Bool):Nat→Bool
 | 0=>false
 | n + 1=>ui p n || p n
theorem xJ {p:Nat→Bool}:∀ {n:Nat},ZH p n=true↔∀ i,i < n→p i=true
 | 0=>by simp [ZH]
 | n + 1=>by
   simp only [ZH,zl,xJ]
   constructor
   · rintro ⟨h1,h2⟩ i hi
     by_cases e:i=n
     · subst e;exact h2
     · exact h1 i (by omega)
   · intro h
     exact ⟨fun i hi=>h i (by omega),h n (by omega)⟩
theorem MR {p q:Nat→Bool} {n:Nat} (h:∀ i,i < n→p i=q i):ZH p n=ZH q n:=by
 rw [yQ,xJ,xJ]
 constructor
 · intro h1 i hi;rw [← h i hi];exact h1 i hi
 · intro h1 i hi;rw [h i hi];exact h1 i hi
theorem xu {p:Nat→Bool}:∀ {n:Nat},ui p n=true↔∃ i,i < n∧p i=true
 | 0=>by simp [ui]
 | n + 1=>by
   simp only [ui,yB,xu]
   constructor
   · rintro (⟨i,h1,h2⟩ | h)
     · exact ⟨i,by omega,h2⟩
     · exact ⟨n,by omega,h⟩
   · rintro ⟨i,h1,h2⟩
     by_cases e:i=n
     · subst e;exact .inr h2
     · exact .inl ⟨i,by omega,h2⟩
theorem zaH {p:Nat→Bool} {n:Nat}:ui p n=!ZH (fun i=>!p i) n:=by
 induction n with
 | zero=>rfl
 | succ n ih=>simp [ui,ZH,ih,Bool.not_and]
theorem J7 {p q:Nat→Bool} {n:Nat} (h:∀ i,i < n→p i=q i):ui p n=ui q n:=by
 rw [zaH,zaH,MR];intro i hi;rw [h i hi]
theorem u9 {β:Type} {L:Nat→Int→Option β} {n:Nat} {p:Nat→Bool} {bad fin:Option β} (hs:∀ k i,i < n→L (k + 1) (i:Int)=bif p i then L k ((i + 1:Nat):Int) else bad) (he:∀ k,L (k + 1) (n:Int)=fin) :
    ∀ k,n < k→L k 0=bif ZH p n then fin else bad:=by
 have key:∀ d k i,i + d=n→d < k→(∀ j,j < i→p j=true)→L k (i:Int)=bif ZH p n then fin else bad:=by
  intro d
  induction d with
  | zero=>
    intro k i hi hk hp
    obtain ⟨k,rfl⟩:∃ k',k=k' + 1:=⟨k - 1,by omega⟩
    obtain rfl:i=n:=by omega
    rw [he,show ZH p i=true from xJ.2 hp];rfl
  | succ d ih=>
    intro k i hi hk hp
    obtain ⟨k,rfl⟩:∃ k',k=k' + 1:=⟨k - 1,by omega⟩
    rw [hs k i (by omega)]
    cases hpi:p i with
    | true=>
      simp only [zj]
      refine ih k (i + 1) (by omega) (by omega) ?_
      intro j hj
      by_cases e:j=i
      · subst e;exact hpi
      · exact hp j (by omega)
    | false=>
      have:ZH p n=false:=by
       rw [Bool.eq_false_iff];intro h
       have:=xJ.1 h i (by omega);rw [hpi] at this;cases this
      rw [this];rfl
 intro k hk
 exact key n k 0 (by omega) hk (by simp)
theorem zf2 {β σ:Type} {L:Nat→Int→σ→Option β} {n:Nat} (I:Nat→σ→Prop) {fin:σ→Option β} (st:Nat→σ→σ)
    (hs:∀ k i s,i < n→I i s→L (k + 1) (i:Int) s=L k ((i + 1:Nat):Int) (st i s)) (hi:∀ i s,i < n→I i s→I (i + 1) (st i s)) (he:∀ k s,I n s→L (k + 1) (n:Int) s=fin s) :
    ∀ k s0,n < k→I 0 s0→∃ s,I n s∧L k 0 s0=fin s∧s=(List.range n).foldl (fun s i=>st i s) s0:=by
 have key:∀ d k i s,i + d=n→d < k→I i s→∃ s',I n s'∧L k (i:Int) s=fin s'∧s'=(List.range' i d).foldl (fun s i=>st i s) s:=by
  intro d
  induction d with
  | zero=>
    intro k i s hi hk hI
    obtain ⟨k,rfl⟩:∃ k',k=k' + 1:=⟨k - 1,by omega⟩
    obtain rfl:i=n:=by omega
    exact ⟨s,hI,he k s hI,rfl⟩
  | succ d ih=>
    intro k i s hd hk hI
    obtain ⟨k,rfl⟩:∃ k',k=k' + 1:=⟨k - 1,by omega⟩
    rw [hs k i s (by omega) hI]
    obtain ⟨s',h1,h2,h3⟩:=ih k (i + 1) (st i s) (by omega) (by omega) (hi i s (by omega) hI)
    exact ⟨s',h1,h2,by rw [h3,List.range'_succ];rfl⟩
 intro k s0 hk hI
 obtain ⟨s',h1,h2,h3⟩:=key n k 0 s0 (by omega) hk hI
 exact ⟨s',h1,h2,by rw [h3,List.range_eq_range']⟩
theorem XB {β σ:Type} {L:Nat→Int→σ→Option β} {n:Nat} (I:Nat→σ→Prop) {r:Option β}
    (hs:∀ k i s,i < n→I i s→∃ s',I (i + 1) s'∧L (k + 1) (i:Int) s=L k ((i + 1:Nat):Int) s') (he:∀ k s,I n s→L (k + 1) (n:Int) s=r) :
    ∀ k s0,n < k→I 0 s0→L k 0 s0=r:=by
 have key:∀ d k i s,i + d=n→d < k→I i s→L k (i:Int) s=r:=by
  intro d
  induction d with
  | zero=>
    intro k i s hi hk hI
    obtain ⟨k,rfl⟩:∃ k',k=k' + 1:=⟨k - 1,by omega⟩
    obtain rfl:i=n:=by omega
    exact he k s hI
  | succ d ih=>
    intro k i s hd hk hI
    obtain ⟨k,rfl⟩:∃ k',k=k' + 1:=⟨k - 1,by omega⟩
    obtain ⟨s',h1,h2⟩:=hs k i s (by omega) hI
    rw [h2]
    exact ih k (i + 1) s' (by omega) (by omega) h1
 intro k s0 hk hI
 exact key n k 0 s0 (by omega) hk hI
theorem zdW {α:Type} {n:Nat} {x:α} (h:n≤1099511627776):mkN (n:Int) x=some (List.replicate n x):=by
 unfold mkN
 rw [if_pos ⟨by omega,by have:((2:Int) ^ 40)=1099511627776:=by decide
                         omega⟩]
 simp
theorem zeL {β:Type} {L:Nat→Int→Option β} {n:Nat} {r:Option β} (hs:∀ k i,i < n→L (k + 1) (i:Int)=L k ((i + 1:Nat):Int)) (he:∀ k,L (k + 1) (n:Int)=r):∀ k,n < k→L k 0=r:=by
 intro k hk
 exact XB (L:=fun k i (_:Unit)=>L k i) (fun _ _=>True) (fun k i s hi _=>⟨(),trivial,hs k i hi⟩) (fun k s _=>he k) k () hk trivial
theorem wN {α:Type} {l:List α} {i:Nat} {d:α} (h:i < l.length):l.getD i d∈l:=by
 rw [zM,z9 h];exact Yu h
theorem XC {α:Type} {xs:List α} {y:α} (h:xs.length < 1099511627776):vL xs [y]=some (xs++[y]):=by
 unfold vL
 rw [if_pos]
 have:(2:Nat) ^ 40=1099511627776:=by decide
 simp;omega
theorem YJ {β σ:Type} {L:Nat→Int→σ→Option β} {n:Nat} (I:Nat→σ→Prop) {fin:σ→Option β}
    (hs:∀ k i s,i < n→I i s→∃ s',I (i + 1) s'∧L (k + 1) (i:Int) s=L k ((i + 1:Nat):Int) s') (he:∀ k s,I n s→L (k + 1) (n:Int) s=fin s) :
    ∀ k s0,n < k→I 0 s0→∃ s,I n s∧L k 0 s0=fin s:=by
 have key:∀ d k i s,i + d=n→d < k→I i s→∃ s',I n s'∧L k (i:Int) s=fin s':=by
  intro d
  induction d with
  | zero=>
    intro k i s hi hk hI
    obtain ⟨k,rfl⟩:∃ k',k=k' + 1:=⟨k - 1,by omega⟩
    obtain rfl:i=n:=by omega
    exact ⟨s,hI,he k s hI⟩
  | succ d ih=>
    intro k i s hd hk hI
    obtain ⟨k,rfl⟩:∃ k',k=k' + 1:=⟨k - 1,by omega⟩
    obtain ⟨s',h1,h2⟩:=hs k i s (by omega) hI
    rw [h2]
    exact ih k (i + 1) s' (by omega) (by omega) h1
 intro k s0 hk hI
 exact key n k 0 s0 (by omega) hk hI
theorem w1:w64 1=1:=by decide
theorem w2:w64 2=2:=by decide
theorem L7 {n:Nat} (h:n < 9223372036854775808):w64 (n:Int)=n:=ue (by omega) (by omega)
theorem Lf (n:Nat) (h:n < 9223372036854775808):(BitVec.ofInt (IntKind.bits .i64) (n:Int)).toNat=n:=by
 show (BitVec.ofInt 64 (n:Int)).toNat=n
 rw [BitVec.ofInt_natCast,BitVec.toNat_ofNat]
 exact Nat.mod_eq_of_lt (by omega)
theorem WH {a b:Nat} (ha:a < 9223372036854775808) (hb:b < 9223372036854775808):ior .i64 a b=((a ||| b:Nat):Int):=by
 unfold ior
 rw [BitVec.toNat_or,Lf a ha,Lf b hb]
 exact L7 (Nat.or_lt_two_pow (n:=63) ha hb)
theorem Kp {a b:Nat} (ha:a < 9223372036854775808) (hb:b < 9223372036854775808):yu .i64 a b=((a &&& b:Nat):Int):=by
 unfold yu
 rw [BitVec.toNat_and,Lf a ha,Lf b hb]
 exact L7 (Nat.and_lt_two_pow (n:=63) a hb)
theorem Zg {a b:Nat} (ha:a < 9223372036854775808) (hb:b < 9223372036854775808):∃ c:Nat,zY .i64 a b=(c:Int)∧c≤a∧∀ j,c.testBit j=(a.testBit j && !b.testBit j):=by
 refine ⟨a &&& (18446744073709551615 - b),?_,Nat.and_le_left,?_⟩
 · unfold zY
   rw [BitVec.toNat_and,BitVec.toNat_not,Lf a ha,Lf b hb]
   have e:(2:Nat) ^ (IntKind.bits .i64) - 1 - b=18446744073709551615 - b:=rfl
   rw [e]
   exact L7 (Nat.lt_of_le_of_lt Nat.and_le_left ha)
 · intro j
   rw [Nat.testBit_and]
   have e:18446744073709551615 - b=2 ^ 64 - (b + 1):=by
    have:(2:Nat) ^ 64=18446744073709551616:=by decide
    omega
   rw [e,Nat.testBit_two_pow_sub_succ (by have:(2:Nat) ^ 64=18446744073709551616:=by decide
                                          omega)]
   by_cases hj:j < 64
   · simp [hj]
   · have:a.testBit j=false:=Nat.testBit_lt_two_pow (uy ha (vE (n:=2) (by decide) (show 63≤j by omega)))
     simp [this]
theorem zjX {a j:Nat} (hj:j≤62) (ha:a * 2 ^ j < 9223372036854775808):WZ .i64 (a:Int) (j:Int)=some (((a * 2 ^ j:Nat)):Int):=by
 unfold WZ
 rw [if_neg (by omega)]
 have e:(min (j:Int).toNat (IntKind.bits .i64))=j:=by
  simp only [yh]
  exact Nat.min_eq_left (by show j≤64;omega)
 rw [e]
 have:=L7 ha
 rw [show ((a:Int) * 2 ^ j)=((a * 2 ^ j:Nat):Int) by simp]
 rw [show IntKind.i64.wrap ((a * 2 ^ j:Nat):Int)=w64 ((a * 2 ^ j:Nat):Int) from rfl,this]
theorem vq {j:Nat} (hj:j≤62):WZ .i64 1 (j:Int)=some ((2 ^ j:Nat):Int):=by
 have h:1 * 2 ^ j < 9223372036854775808:=by
  have:=vE (n:=2) (by decide) hj
  have e:(2:Nat) ^ 62=4611686018427387904:=by decide
  omega
 have:=zjX (a:=1) hj h
 simpa using this
theorem zfc {a j:Nat}:Uq .i64 (a:Int) (j:Int)=some ((a / 2 ^ (min j 64):Nat):Int):=by
 unfold Uq
 rw [if_neg (by omega)]
 simp only [yh]
 have:(IntKind.bits .i64)=64:=rfl
 rw [this]
 rw [Int.fdiv_eq_ediv_of_nonneg _ (by exact_mod_cast Nat.zero_le _)]
 simp
theorem Ya {j:Nat} (hj:j≤62):(2:Nat) ^ j < 9223372036854775808:=by
 have:=vE (n:=2) (by decide) hj
 have e:(2:Nat) ^ 62=4611686018427387904:=by decide
 omega
def zdB (m:Nat) (p:Nat→Bool):Prop:=m < 9223372036854775808∧∀ j,m.testBit j=p j
theorem zdt {n:Nat} (hn:n≤62):zdB (2 ^ n - 1) (fun j=>decide (j < n)):=
 ⟨by have:=Ya hn;omega,fun j=>by rw [Nat.testBit_two_pow_sub_one]⟩
theorem JT:∀ (n:Nat) (l:List Int),(∀ j,j < n→(j:Int)∈l)→n≤l.length∧(l.length=n→∀ y∈l,0≤y∧y < n)
 | 0,l,_=>⟨Nat.zero_le _,fun h y hy=>by rw [List.length_eq_zero_iff.1 h] at hy;cases hy⟩
 | n + 1,l,h=>by
   have hn:=h n (by omega)
   have hp:=List.length_pos_of_mem hn
   have ih:=JT n (l.erase (n:Int)) (fun j hj=>(List.mem_erase_of_ne (by omega)).2 (h j (by omega)))
   rw [List.length_erase_of_mem hn] at ih
   refine ⟨by omega,fun hl y hy=>?_⟩
   by_cases e:y=n
   · subst e;omega
   · have:=ih.2 (by omega) y ((List.mem_erase_of_ne e).2 hy)
     omega
theorem Lm:∀ (n:Nat) (l:List Int),l.Nodup→(∀ x∈l,0≤x∧x < n)→l.length≤n
 | 0,l,_,h=>by
   cases l with
   | nil=>simp
   | cons x l=>have:=h x (by simp);omega
 | n + 1,l,hn,h=>by
   have hs:∀ x∈l.erase (n:Int),0≤x∧x < n:=by
    intro x hx
    have h1:=(hn.mem_erase_iff).1 hx
    have:=h x h1.2
    omega
   have ih:=Lm n (l.erase (n:Int)) (hn.erase _) hs
   by_cases hm:(n:Int)∈l
   · rw [List.length_erase_of_mem hm] at ih;omega
   · rw [List.erase_of_not_mem hm] at ih;omega
theorem zdE {m j:Nat} (hm:m < 9223372036854775808) (hj:j≤62):∃ q:Int,Uq .i64 (m:Int) (j:Int)=some q∧(yu .i64 q 1 == 1)=m.testBit j∧(yu .i64 q 1 == 0)=!m.testBit j:=by
 refine ⟨_,zfc,?_⟩
 have e:min j 64=j:=by omega
 rw [e]
 have hq:m / 2 ^ j < 9223372036854775808:=Nat.lt_of_le_of_lt (Nat.div_le_self _ _) hm
 have:=Kp hq (b:=1) (by omega)
 rw [show ((1:Nat):Int)=1 from rfl] at this
 rw [this,Nat.and_one_is_mod]
 have hb:m.testBit j=decide (m / 2 ^ j % 2=1):=by
  rw [Nat.testBit_eq_decide_div_mod_eq]
 rw [hb]
 have h2:=Nat.mod_two_eq_zero_or_one (m / 2 ^ j)
 rcases h2 with h2 | h2 <;> simp [h2]
abbrev Gr:=Int×List (Int×Int)
theorem NK {F:Nat} {n lo hi:Int}:XA F n lo hi=some (decide (lo≤n) && decide (n≤hi)):=by
 unfold XA
 by_cases h:n≥lo
 · simp [h]
 · have:¬ lo≤n:=h
   simp [this]
theorem zer {F:Nat} {n lo hi:Int}:Uu F n lo hi=some (decide (lo≤n) && decide (n≤hi)):=by
 unfold Uu
 by_cases h:n≥lo
 · simp [h]
 · have:¬ lo≤n:=h
   simp [this]
def bef (a b:Int×Int):Bool:=decide (a.1 < b.1) || (a.1 == b.1) && decide (a.2 < b.2)
theorem Jo {F:Nat} {a b:Int×Int}:Zp F a b=some (bef a b):=by
 unfold Zp bef
 by_cases h:a.1 < b.1
 · simp [h]
 · cases e:(a.1 == b.1) <;> simp [h]
theorem zl4 {F:Nat} {x y:Int}:wl F x y=some (if x < y then -1 else if x > y then 1 else 0):=by
 unfold wl vv
 by_cases h:x < y
 · simp [h]
 · by_cases h2:y < x <;> simp [h,h2]
theorem zjW {F:Nat} {a b:Int×Int} (hF:3≤F):∃ r,wg F [a.1,a.2] [b.1,b.2]=some r∧(decide (r≥0)=!bef a b):=by
 obtain ⟨k,rfl⟩:∃ k,F=k + 3:=⟨F - 3,by omega⟩
 obtain ⟨a1,a2⟩:=a
 obtain ⟨b1,b2⟩:=b
 unfold wg
 simp only [we,zl4,bef]
 by_cases h1:a1 < b1
 · refine ⟨-1,?_,?_⟩ <;> simp [idx,h1]
 · by_cases h2:b1 < a1
   · have e:¬ a1=b1:=by omega
     refine ⟨1,?_,?_⟩
     · simp [idx,h1,h2]
     · simp [h1,e]
   · obtain rfl:a1=b1:=by omega
     by_cases h3:a2 < b2
     · refine ⟨-1,?_,?_⟩ <;> simp [idx,h3,w1]
     · by_cases h4:b2 < a2
       · refine ⟨1,?_,?_⟩ <;> simp [idx,h3,h4,w1]
       · obtain rfl:a2=b2:=by omega
         refine ⟨0,?_,?_⟩ <;> simp [idx,w1,w2]
def okE (n:Int) (es:List (Int×Int)) (i:Nat):Bool:=
 decide (0≤(es.getD i (0,0)).1) && decide ((es.getD i (0,0)).1 < (es.getD i (0,0)).2) && decide ((es.getD i (0,0)).2 < n) && (i == 0 || bef (es.getD (i - 1) (0,0)) (es.getD i (0,0)))
def yT (g:Gr):Bool:=decide (0≤g.1) && decide (g.1≤8) && ZH (okE g.1 g.2) g.2.length
theorem Ws {F:Nat} {g:Gr} (hF:g.2.length < F) (h3:3≤F) (hl:Sm g.2.length):vy F g=some (yT g):=by
 unfold vy
 rw [NK,zb]
 unfold yT
 by_cases h:0≤g.1∧g.1≤8
 · simp only [h.1,h.2,decide_true,wK,y8,zk,yk]
   rw [u9 (L:=fun k i=>xm F g k i) (n:=g.2.length) (p:=okE g.1 g.2) (bad:=some false) (fin:=some true) ?_ ?_ F hF]
   · cases ZH (okE g.1 g.2) g.2.length <;> rfl
   · intro k i hi
     simp only [xm,vX]
     rw [yf (d:=(0,0)) hi,yl hi hl]
     have hlt:decide ((i:Int) < g.2.length)=true:=by simp [hi]
     simp only [hlt,zj,zb,okE]
     generalize g.2.getD i (0,0)=e
     by_cases h1:e.1 < 0
     · have:¬ 0≤e.1:=by omega
       simp [h1,this]
     · by_cases h2:e.1≥e.2
       · have:¬ e.1 < e.2:=by omega
         simp [h1,h2,this]
       · by_cases h4:e.2≥g.1
         · have:¬ e.2 < g.1:=by omega
           simp [h1,h2,h4,this]
         · have a1:0≤e.1:=by omega
           have a2:e.1 < e.2:=by omega
           have a3:e.2 < g.1:=by omega
           simp only [h1,h2,h4,a1,a2,a3,decide_true,decide_false,zk,wK,yk]
           by_cases h5:i=0
           · subst h5;simp
           · have h6:decide ((i:Int) > 0)=true:=by simp;omega
             have h7:(i == 0)=false:=by simpa using h5
             rw [h6,zj,zcW (by omega) hi hl,yf (d:=(0,0)) (by omega),h7]
             obtain ⟨r,hr,hr2⟩:=zjW (F:=F) (a:=g.2.getD (i - 1) (0,0)) (b:=e) h3
             simp only [zb,hr,hr2,ZG]
             cases bef (g.2.getD (i - 1) (0,0)) e <;> rfl
   · intro k;simp [xm]
 · have:(decide (0≤g.1) && decide (g.1≤8))=false:=by
    rw [Bool.eq_false_iff];intro h';apply h;simpa using h'
   simp [this]
theorem Xb {F:Nat} {g:Gr} (hF:g.2.length < F) (hl:Sm g.2.length):YC F g=some (yT g):=by
 unfold YC
 let p:Nat→Bool:=fun i=>decide (0≤(g.2.getD i (0,0)).1) && decide ((g.2.getD i (0,0)).1≤w64 (g.1 - 1)) && (decide (0≤(g.2.getD i (0,0)).2) && decide ((g.2.getD i (0,0)).2≤w64 (g.1 - 1))) && decide ((g.2.getD i (0,0)).1 < (g.2.getD i (0,0)).2) && (i == 0 || bef (g.2.getD (i - 1) (0,0)) (g.2.getD i (0,0)))
 rw [u9 (L:=fun k i=>xC F g k i) (n:=g.2.length) (p:=p) (bad:=some false) (fin:=some (decide (0≤g.1) && decide (g.1≤8))) ?_ ?_ F hF]
 · unfold yT
   by_cases h:0≤g.1∧g.1≤8
   · have hw:w64 (g.1 - 1)=g.1 - 1:=ue (by omega) (by omega)
     rw [MR (q:=okE g.1 g.2)]
     · cases ZH (okE g.1 g.2) g.2.length <;> simp [h.1,h.2]
     · intro i _
       simp only [p,okE,hw]
       generalize g.2.getD i (0,0)=e
       generalize (i == 0 || bef (g.2.getD (i - 1) (0,0)) e)=b
       rw [yQ]
       simp only [zl,ye]
       constructor
       · rintro ⟨⟨⟨⟨a1,a2⟩,a3,a4⟩,a5⟩,a6⟩;exact ⟨⟨⟨a1,a5⟩,by omega⟩,a6⟩
       · rintro ⟨⟨⟨a1,a5⟩,a4⟩,a6⟩;exact ⟨⟨⟨⟨a1,by omega⟩,by omega,by omega⟩,a5⟩,a6⟩
   · have:(decide (0≤g.1) && decide (g.1≤8))=false:=by
      rw [Bool.eq_false_iff];intro h';apply h;simpa using h'
     rw [this];cases ZH p g.2.length <;> rfl
 · intro k i hi
   simp only [xC,uB,zer,zb]
   rw [yf (d:=(0,0)) hi,yl hi hl]
   have hlt:decide ((i:Int) < g.2.length)=true:=by simp [hi]
   simp only [hlt,zj,zb,p]
   generalize g.2.getD i (0,0)=e
   generalize (decide (0≤e.1) && decide (e.1≤w64 (g.1 - 1)))=b1
   generalize (decide (0≤e.2) && decide (e.2≤w64 (g.1 - 1)))=b2
   cases b1
   · rfl
   cases b2
   · rfl
   by_cases h2:e.1≥e.2
   · have:¬ e.1 < e.2:=by omega
     simp [h2,this]
   · have:e.1 < e.2:=by omega
     simp only [y8,zk,h2,this,decide_true,decide_false,wK,yk]
     by_cases h5:i=0
     · subst h5;simp
     · have h6:decide ((i:Int) > 0)=true:=by simp;omega
       have h7:(i == 0)=false:=by simpa using h5
       rw [h6,zj,zcW (by omega) hi hl,yf (d:=(0,0)) (by omega),h7]
       simp only [zb,Jo,ZG]
       cases bef (g.2.getD (i - 1) (0,0)) e <;> rfl
 · intro k;simp [xC,zer]
theorem zT {g:Gr} (h:yT g=true):0≤g.1∧g.1≤8:=by
 unfold yT at h
 simp only [zl,ye] at h
 exact h.1
theorem Wn {F:Nat} {l:List Int} {n:Int} (hF:l.length < F) (hl:Sm l.length):ul F l n=some (decide (n∈l)):=by
 unfold ul
 rw [u9 (L:=fun k i=>Z7 F l n k i) (n:=l.length) (p:=fun i=>!(l.getD i 0 == n)) (bad:=some true) (fin:=some false) ?_ ?_ F hF]
 · by_cases h:n∈l
   · have:ZH (fun i=>!(l.getD i 0 == n)) l.length=false:=by
      rw [Bool.eq_false_iff];intro h'
      obtain ⟨i,hi,e⟩:=w4.1 h
      have:=xJ.1 h' i hi
      simp [zM,hi,e] at this
     rw [this];simp [h]
   · have:ZH (fun i=>!(l.getD i 0 == n)) l.length=true:=by
      rw [xJ];intro i hi
      simp only [zM,z9 hi,yd,xk,beq_eq_false_iff_ne]
      intro e;exact h (e ▸ Yu hi)
     rw [this];simp [h]
 · intro k i hi
   simp only [Z7]
   rw [yf (d:=0) hi,yl hi hl]
   have hlt:decide ((i:Int) < l.length)=true:=by simp [hi]
   simp only [hlt,zj,zb]
   cases (l.getD i 0 == n) <;> rfl
 · intro k;simp [Z7]
def xb (n:Int) (l:List Int):Bool:=decide ((l.length:Int)=n) && ZH (fun j=>decide ((j:Int)∈l)) n.toNat
theorem JA {F:Nat} {g:Gr} {l:List Int} (h0:0≤g.1) (h8:g.1≤8) (hF:l.length < F) (h9:9≤F) (hl:Sm l.length):Xz F g l=some (xb g.1 l):=by
 unfold Xz
 obtain ⟨n,hn⟩:∃ n:Nat,g.1=n:=⟨g.1.toNat,by omega⟩
 rw [u9 (L:=fun k i=>Zu F l g k i) (n:=n) (p:=fun j=>decide ((j:Int)∈l)) (bad:=some false) (fin:=some ((l.length:Int) == n)) ?_ ?_ F (by omega)]
 · unfold xb
   rw [hn]
   simp only [yh]
   cases ZH (fun j=>decide ((j:Int)∈l)) n <;> simp
   rfl
 · intro k i hi
   simp only [Zu,Wn hF hl,hn]
   rw [yl hi (by unfold Sm;omega)]
   have hlt:decide ((i:Int) < (n:Int))=true:=by simp [hi]
   simp only [hlt,zj,zb]
   cases decide ((i:Int)∈l) <;> rfl
 · intro k;simp [Zu,hn]
theorem zaT {F:Nat} {l:List Int} {lo hi:Int} (hF:l.length < F) (hl:Sm l.length):Zm F l lo hi=some (l.all fun x=>decide (lo≤x) && decide (x≤hi)):=by
 unfold Zm
 rw [u9 (L:=fun k i=>vJ F lo hi l k i) (n:=l.length) (p:=fun i=>decide (lo≤l.getD i 0) && decide (l.getD i 0≤hi)) (bad:=some false) (fin:=some true) ?_ ?_ F hF]
 · have:ZH (fun i=>decide (lo≤l.getD i 0) && decide (l.getD i 0≤hi)) l.length=l.all fun x=>decide (lo≤x) && decide (x≤hi):=by
    rw [yQ,xJ,yE]
    constructor
    · intro h x hx
      obtain ⟨i,hi,rfl⟩:=w4.1 hx
      have:=h i hi
      simpa [zM,hi] using this
    · intro h i hi
      simpa [zM,hi] using h l[i] (Yu hi)
   rw [this];cases (l.all fun x=>decide (lo≤x) && decide (x≤hi)) <;> rfl
 · intro k i hi
   simp only [vJ,NK]
   rw [yf (d:=0) hi,yl hi hl]
   have hlt:decide ((i:Int) < l.length)=true:=by simp [hi]
   simp only [hlt,zj,zb]
   cases (decide (lo≤l.getD i 0) && decide (l.getD i 0≤_)) <;> rfl
 · intro k;simp [vJ]
theorem zgb {F:Nat} {l:List Int} (hF:l.length < F) (hl:Sm l.length) (h:∀ x∈l,0≤x∧x≤62):∃ m:Nat,WE F l=some (m:Int)∧zdB m (fun j=>decide ((j:Int)∈l)):=by
 unfold WE
 have key:∃ s:Int,(∃ m:Nat,s=(m:Int)∧m < 9223372036854775808∧∀ j,m.testBit j=decide ((j:Int)∈l.take l.length))∧uF F l F 0 0=some s:=by
  refine Exists.imp (fun s h=>⟨h.1,h.2.1⟩) (zf2 (L:=fun k i s=>uF F l k s i) (n:=l.length) (fun i s=>∃ m:Nat,s=(m:Int)∧m < 9223372036854775808∧∀ j,m.testBit j=decide ((j:Int)∈l.take i)) (fin:=fun s=>some s)
   (fun i s=>ior .i64 s ((2 ^ (l.getD i 0).toNat:Nat):Int)) ?_ ?_ ?_ F 0 hF ⟨0,rfl,by omega,by simp⟩)
  · rintro k i s hi ⟨m,rfl,hm1,hm2⟩
    simp only [uF]
    rw [yf (d:=0) hi,yl hi hl]
    have hlt:decide ((i:Int) < l.length)=true:=by simp [hi]
    simp only [hlt,zj,zb]
    have hx:=h (l.getD i 0) (by rw [zM,z9 hi];exact Yu hi)
    obtain ⟨x,hx'⟩:∃ x:Nat,l.getD i 0=x:=⟨(l.getD i 0).toNat,by omega⟩
    rw [hx',vq (by omega)];simp
  · rintro i s hi ⟨m,rfl,hm1,hm2⟩
    have hx:=h (l.getD i 0) (by rw [zM,z9 hi];exact Yu hi)
    obtain ⟨x,hx'⟩:∃ x:Nat,l.getD i 0=x:=⟨(l.getD i 0).toNat,by omega⟩
    rw [hx',yh,WH hm1 (Ya (by omega))]
    refine ⟨_,rfl,Nat.or_lt_two_pow (n:=63) hm1 (Ya (by omega)),fun j=>?_⟩
    rw [vC,hm2,xW,List.take_add_one,z9 hi]
    have:l[i]=x:=by rw [← hx',zM,z9 hi];rfl
    rw [yQ]
    simp [this]
    constructor
    · rintro (h | h)
      · exact .inl h
      · exact .inr (by omega)
    · rintro (h | h)
      · exact .inl h
      · exact .inr (by omega)
  · rintro k s ⟨m,rfl,hm1,hm2⟩
    simp [uF]
 obtain ⟨s,⟨m,rfl,hm1,hm2⟩,h2⟩:=key
 exact ⟨m,h2,hm1,by simpa using hm2⟩
theorem Nf {F:Nat} {g:Gr} {l:List Int} (h0:0≤g.1) (h8:g.1≤8) (hF:l.length < F) (hl:Sm l.length):Zw F g l=some (xb g.1 l):=by
 unfold Zw xb
 obtain ⟨n,hn⟩:∃ n:Nat,g.1=n:=⟨g.1.toNat,by omega⟩
 have hw:w64 (g.1 - 1)=g.1 - 1:=ue (by omega) (by omega)
 rw [zaT hF hl,hw,hn]
 by_cases e:l.length=n
 · have e':((l.length:Int) == (n:Int))=true:=by simp [e]
   simp only [e',zj,zb,yh]
   by_cases ha:(l.all fun x=>decide (0≤x) && decide (x≤(n:Int) - 1))=true
   · rw [ha,zj]
     have ha':∀ x∈l,0≤x∧x≤62:=by
      intro x hx;have:=yE.1 ha x hx;simp at this;omega
     obtain ⟨m,hm,hmask⟩:=zgb hF hl ha'
     rw [hm,zb,vq (by omega),zb]
     have hw2:w64 (((2 ^ n:Nat):Int) - 1)=((2 ^ n - 1:Nat):Int):=by
      have:=Ya (j:=n) (by omega)
      have:0 < 2 ^ n:=wW n
      rw [ue (by omega) (by omega)];omega
     rw [hw2]
     congr 1
     rw [yQ]
     have hall:=zdt (n:=n) (by omega)
     simp only [yC,zl,ye,xJ]
     constructor
     · intro h
       have h':m=2 ^ n - 1:=by omega
       refine ⟨by omega,fun j hj=>?_⟩
       have:=hmask.2 j
       rw [h',hall.2] at this
       simpa [hj] using this.symm
     · rintro ⟨_,h⟩
       have:m=2 ^ n - 1:=by
        apply ZW
        intro j
        rw [hmask.2,hall.2]
        by_cases hj:j < n
        · simp [hj,h j hj]
        · simp only [hj,decide_false,decide_eq_false_iff_not]
          intro hm'
          have:=yE.1 ha _ hm'
          simp at this;omega
       rw [this]
   · rw [Bool.not_eq_true] at ha
     rw [ha,zk]
     congr 1
     symm
     rw [Bool.eq_false_iff];intro h
     simp only [zl,ye,xJ] at h
     have:=(JT n l h.2).2 e
     have h2:(l.all fun x=>decide (0≤x) && decide (x≤(n:Int) - 1))=true:=by
      rw [yE];intro x hx;have:=this x hx;simp;omega
     rw [ha] at h2;cases h2
 · have e':((l.length:Int) == (n:Int))=false:=by simp;omega
   have e2:decide ((l.length:Int)=(n:Int))=false:=by simp;omega
   rw [e',e2];simp
theorem zbt {F:Nat} {a b:Int}:YB F a b=some (max a b):=by
 unfold YB
 by_cases h:a > b
 · simp [h];omega
 · simp [h];omega
def far (l:List Int) (e:Int×Int):Int:=max ((l.idxOf e.1:Int) - l.idxOf e.2) ((l.idxOf e.2:Int) - l.idxOf e.1)
theorem zmX {n:Int} {es:List (Int×Int)} (h:ZH (okE n es) es.length=true) {i:Nat} (hi:i < es.length):0≤(es.getD i (0,0)).1∧(es.getD i (0,0)).1 < (es.getD i (0,0)).2∧(es.getD i (0,0)).2 < n:=by
 have:=xJ.1 h i hi
 unfold okE at this
 simp only [zl,ye] at this
 exact ⟨this.1.1.1,this.1.1.2,this.1.2⟩
theorem Xd {g:Gr} (h:yT g=true) {i:Nat} (hi:i < g.2.length):0≤(g.2.getD i (0,0)).1∧(g.2.getD i (0,0)).1 < (g.2.getD i (0,0)).2∧(g.2.getD i (0,0)).2 < g.1:=by
 unfold yT at h
 simp only [zl] at h
 exact zmX h.2 hi
theorem Uk {n:Int} {l:List Int} (h:xb n l=true) {x:Int} (h0:0≤x) (hx:x < n):x∈l:=by
 unfold xb at h
 simp only [zl,xJ,ye] at h
 have:=h.2 x.toNat (by omega)
 rwa [WX h0] at this
theorem vS {n:Int} {l:List Int} (h:xb n l=true):(l.length:Int)=n:=by
 unfold xb at h
 simp only [zl,ye] at h
 exact h.1
theorem Ld {α:Type} {xs:List α} {i j:Nat} {a d:α} (hi:i < xs.length):(xs.set i a).getD j d=if i=j then a else xs.getD j d:=by
 rw [zM,List.getElem?_set,zM]
 split
 · rename_i e;subst e;simp [hi]
 · rfl
def par (ps:List Int) (x:Int):Int:=ps.getD x.toNat (-1)
def zk2 (ps:List Int):Nat→Int→List Int
 | 0,_=>[]
 | d + 1,x=>if 0≤par ps x then par ps x :: zk2 ps d (par ps x) else []
def zu5 (n:Nat) (ps:List Int) (x:Int):Bool:=decide ((zk2 ps (n + 1) x).length < n)
def mkm (p:Nat→Bool):Nat→Nat
 | 0=>0
 | n + 1=>mkm p n ||| (if p n then 2 ^ n else 0)
theorem yy {p:Nat→Bool}:∀ (n j:Nat),(mkm p n).testBit j=(decide (j < n) && p j)
 | 0,j=>by simp [mkm]
 | n + 1,j=>by
   rw [mkm,vC,yy n j]
   by_cases hp:p n=true
   · rw [if_pos hp,xW]
     by_cases e:n=j
     · subst e;simp [hp]
     · have h1:decide (n=j)=false:=by simpa using e
       have h2:decide (j < n + 1)=decide (j < n):=by
        rw [yQ];simp;omega
       rw [h1,h2];simp
   · rw [if_neg hp,X6]
     rw [Bool.not_eq_true] at hp
     by_cases e:n=j
     · subst e;simp [hp]
     · have h2:decide (j < n + 1)=decide (j < n):=by
        rw [yQ];simp;omega
       rw [h2];simp
theorem Yd {p:Nat→Bool} {n:Nat}:mkm p n < 2 ^ n:=by
 apply Nat.lt_pow_two_of_testBit
 intro j hj
 rw [yy]
 have:decide (j < n)=false:=by simp;omega
 rw [this];rfl
theorem wC {p:Nat→Bool} {n:Nat} (h:n≤62):mkm p n < 9223372036854775808:=Nat.lt_trans Yd (Ya h)
theorem Zx {p q:Nat→Bool} {n:Nat} (h:∀ j,j < n→p j=q j):mkm p n=mkm q n:=by
 apply ZW;intro j
 rw [yy,yy]
 by_cases hj:j < n
 · rw [h j hj]
 · simp [hj]
theorem uu {p:Nat→Bool} {n m:Nat} (hm:∀ j,m.testBit j=(decide (j < n) && p j)):m=mkm p n:=by
 apply ZW;intro j;rw [hm,yy]
def ur (g:Gr) (a b:Nat) (i:Nat):Bool:=((g.2.getD i (0,0)).1 == (a:Int) && (g.2.getD i (0,0)).2 == (b:Int)) || ((g.2.getD i (0,0)).1 == (b:Int) && (g.2.getD i (0,0)).2 == (a:Int))
def adj (g:Gr) (a b:Nat):Bool:=ui (ur g a b) g.2.length
theorem zdg {g:Gr} {a b i:Nat}:ur g a b i=ur g b a i:=by unfold ur;rw [Bool.or_comm]
theorem uP {g:Gr} {a b:Nat}:adj g a b=adj g b a:=J7 fun _ _=>zdg
theorem Uv {g:Gr} (hg:yT g=true) {a b:Nat} (h:adj g a b=true):(a:Int) < g.1∧(b:Int) < g.1∧a≠b:=by
 unfold adj at h
 obtain ⟨i,hi,h⟩:=xu.1 h
 obtain ⟨e1,e2,e3⟩:=Xd hg hi
 unfold ur at h
 simp only [yB,zl,yC] at h
 omega
theorem LZ {F:Nat} {g:Gr} {a b:Nat} (hF:g.2.length < F) (hs:Sm g.2.length):ZY F g (a:Int) (b:Int)=some (adj g a b):=by
 unfold ZY
 rw [u9 (L:=fun k i=>xF F (a:Int) (b:Int) g k i) (n:=g.2.length) (p:=fun i=>!ur g a b i) (bad:=some true) (fin:=some false) ?_ ?_ F hF]
 · unfold adj;rw [zaH];cases ZH (fun i=>!ur g a b i) g.2.length <;> rfl
 · intro k i hi
   simp only [xF,uD]
   rw [yf (d:=(0,0)) hi,yl hi hs]
   have hlt:decide ((i:Int) < g.2.length)=true:=by simp [hi]
   rw [hlt,zj,zb]
   unfold ur
   generalize g.2.getD i (0,0)=e
   generalize (e.1 == (a:Int))=b1
   generalize (e.2 == (b:Int))=b2
   generalize (e.1 == (b:Int))=b3
   generalize (e.2 == (a:Int))=b4
   cases b1 <;> cases b2 <;> cases b3 <;> cases b4 <;> rfl
 · intro k;simp [xF]
def xP (g:Gr):List Int:=(List.range g.1.toNat).map fun x=>((mkm (adj g x) g.1.toNat:Nat):Int)
theorem wH {g:Gr}:(xP g).length=g.1.toNat:=by simp [xP]
theorem Wd {g:Gr} {x:Nat} (h:x < g.1.toNat):(xP g).getD x 0=((mkm (adj g x) g.1.toNat:Nat):Int):=by
 simp [xP,zM,h]
theorem U6 {F:Nat} {g:Gr} (hg:yT g=true) (hF:g.2.length < F) (hs:Sm g.2.length):ZO F g=some ⟨xP g⟩:=by
 have h8:=zT hg
 obtain ⟨n,hn⟩:∃ n:Nat,g.1=n:=⟨g.1.toNat,by omega⟩
 unfold ZO
 rw [hn,zdW (by omega),zb]
 refine XB (L:=fun k i s=>Z9 F g k s i) (n:=g.2.length) (fun i w=>w.length=n∧∀ x,x < n→∃ m:Nat,w.getD x 0=(m:Int)∧zdB m (fun j=>ui (ur g x j) i)) ?_ ?_ F _ hF ?_
 · intro k i w hi ⟨hl,hw⟩
   obtain ⟨e1,e2,e3⟩:=Xd hg hi
   simp only [Z9]
   rw [yf (d:=(0,0)) hi,yl hi hs]
   have hlt:decide ((i:Int) < g.2.length)=true:=by simp [hi]
   rw [hlt,zj,zb]
   obtain ⟨a,ha⟩:∃ a:Nat,(g.2.getD i (0,0)).1=a:=⟨(g.2.getD i (0,0)).1.toNat,by omega⟩
   obtain ⟨b,hb⟩:∃ b:Nat,(g.2.getD i (0,0)).2=b:=⟨(g.2.getD i (0,0)).2.toNat,by omega⟩
   have hj:∀ x j,ur g x j i=((x == a && j == b) || (x == b && j == a)):=by
    intro x j
    unfold ur
    rw [ha,hb,yQ]
    simp
    omega
   rw [ha] at e1 e2 ⊢
   rw [hb] at e2 e3 ⊢
   obtain ⟨ma,hma,hma2⟩:=hw a (by omega)
   obtain ⟨mb,hmb,hmb2⟩:=hw b (by omega)
   have ia:idx w (a:Int)=some (ma:Int):=by rw [yf (d:=0) (by omega),hma]
   rw [ia,zb,vq (by omega),zb,zb,WH hma2.1 (Ya (by omega)),yh]
   have ib:idx (w.set a ((ma ||| 2 ^ b:Nat):Int)) (b:Int)=some (mb:Int):=by
    rw [yf (d:=0) (by simp;omega),Ld (by omega),if_neg (by omega),hmb]
   rw [ib,zb,vq (by omega),zb,zb,WH hmb2.1 (Ya (by omega)),yh]
   refine ⟨_,⟨by simp [hl],?_⟩,rfl⟩
   intro x hx
   rw [Ld (by simp;omega),Ld (by omega)]
   by_cases exb:b=x
   · subst exb
     rw [if_pos rfl]
     refine ⟨_,rfl,Nat.or_lt_two_pow (n:=63) hmb2.1 (Ya (by omega)),fun j=>?_⟩
     rw [vC,hmb2.2,xW]
     show (ui (ur g b j) i || decide (a=j))=(ui (ur g b j) i || ur g b j i)
     rw [hj]
     congr 1
     rw [yQ];simp;omega
   · rw [if_neg exb]
     by_cases exa:a=x
     · subst exa
       rw [if_pos rfl]
       refine ⟨_,rfl,Nat.or_lt_two_pow (n:=63) hma2.1 (Ya (by omega)),fun j=>?_⟩
       rw [vC,hma2.2,xW]
       show (ui (ur g a j) i || decide (b=j))=(ui (ur g a j) i || ur g a j i)
       rw [hj]
       congr 1
       rw [yQ];simp;omega
     · rw [if_neg exa]
       obtain ⟨m,h1,h2⟩:=hw x hx
       refine ⟨m,h1,h2.1,fun j=>?_⟩
       rw [h2.2]
       show ui (ur g x j) i=(ui (ur g x j) i || ur g x j i)
       have:ur g x j i=false:=by
        rw [hj,Bool.eq_false_iff];intro h;simp at h;omega
       rw [this,Bool.or_false]
 · intro k w ⟨hl,hw⟩
   simp only [Z9]
   have hlt:decide ((g.2.length:Int) < g.2.length)=false:=by simp
   rw [hlt,zk]
   have:w=xP g:=by
    apply List.ext_getElem (by rw [hl,wH,hn];simp)
    intro x h1 h2
    obtain ⟨m,h3,h4⟩:=hw x (by omega)
    have h5:=Wd (g:=g) (x:=x) (by rw [wH] at h2;exact h2)
    rw [zM,z9 h1] at h3
    rw [zM,z9 h2] at h5
    simp at h3 h5
    rw [h3,h5]
    congr 1
    refine uu fun j=>?_
    rw [h4.2,hn,yh]
    by_cases hj:j < n
    · simp [hj,adj]
    · have:adj g x j=false:=by
       rw [Bool.eq_false_iff];intro h;have:=Uv hg h;omega
      simp only [hj,decide_false,um];exact this
   rw [this]
 · refine ⟨by simp,fun x hx=>⟨0,by simp [zM,hx],by omega,fun j=>by simp [ui]⟩⟩
def K1 (g:Gr) (p:Nat→Bool) (j:Nat):Bool:=p j || ui (fun x=>p x && adj g x j) g.1.toNat
theorem NU {F:Nat} {g:Gr} {p:Nat→Bool} (hg:yT g=true) (hF:9≤F) :
    uJ F ⟨xP g⟩ ((mkm p g.1.toNat:Nat):Int)=some ((mkm (K1 g p) g.1.toNat:Nat):Int):=by
 have h8:=zT hg
 obtain ⟨n,hn⟩:∃ n:Nat,g.1=n:=⟨g.1.toNat,by omega⟩
 unfold uJ
 refine XB (L:=fun k i s=>xS F ((mkm p g.1.toNat:Nat):Int) ⟨xP g⟩ k s i) (n:=n) (fun i s=>s=((mkm (fun j=>p j || ui (fun x=>p x && adj g x j) i) n:Nat):Int)) ?_ ?_ F _ (by omega) ?_
 · intro k i s hi hs
   subst hs
   simp only [xS,uO]
   have hnn:g.1.toNat=n:=by omega
   have hlt:decide ((i:Int) < ((xP g).length:Int))=true:=by rw [wH];simp;omega
   rw [hlt,zj,yf (d:=0) (by rw [wH];omega),zb,Wd (by omega),hnn]
   obtain ⟨q,hq,hq1,_⟩:=zdE (m:=mkm p n) (j:=i) (wC (by omega)) (by omega)
   rw [hq,zb,hq1,yy,yl hi (by unfold Sm;omega)]
   have hd:decide (i < n)=true:=by simp [hi]
   rw [hd,yk]
   cases hp:p i with
   | true=>
     rw [zj,WH (wC (by omega)) (wC (by omega))]
     refine ⟨_,?_,rfl⟩
     congr 1
     refine uu fun j=>?_
     rw [vC,yy,yy]
     simp only [ui,hp,yk]
     cases decide (j < n) <;> simp [Bool.or_assoc]
   | false=>
     rw [zk]
     refine ⟨_,?_,rfl⟩
     congr 1
     refine Zx fun j _=>?_
     simp [ui,hp]
 · intro k s hs
   subst hs
   simp only [xS]
   have hlt:decide ((n:Int) < ((xP g).length:Int))=false:=by rw [wH];simp;omega
   rw [hlt,zk]
   have hnn:g.1.toNat=n:=by omega
   unfold K1
   rw [hnn]
 · have hnn:g.1.toNat=n:=by omega
   rw [hnn]
   congr 1
   refine Zx fun j _=>?_
   simp [ui]
def xc (p:Nat→Bool) (n:Nat):Nat:=(List.range n).countP p
theorem vT {p q:Nat→Bool} {n:Nat} (h:∀ j,j < n→p j=q j):xc p n=xc q n:=by
 unfold xc
 apply List.countP_congr
 intro x hx
 rw [h x (by simpa using hx)]
def zkl (m:Nat):Nat:=xc m.testBit 8
theorem zjj:∀ m:Nat,m < 256→w9 0 (Kd.mk (IntKind.u64.wrap (m:Int)):Kd .u64)=some (zkl m:Int):=by decide +kernel
theorem zak {F m:Nat} (h:m < 256):w9 F (Kd.mk (IntKind.u64.wrap (m:Int)):Kd .u64)=some (zkl m:Int):=zjj m h
theorem ML {p:Nat→Bool} {n:Nat} (hn:n≤8):zkl (mkm p n)=xc p n:=by
 unfold zkl
 have h1:xc (mkm p n).testBit 8=xc (fun j=>decide (j < n) && p j) 8:=vT fun j _=>yy n j
 rw [h1]
 unfold xc
 have:List.range 8=List.range n++(List.range (8 - n)).map (n + ·):=by
  have:=@List.range_add n (8 - n)
  rwa [show n + (8 - n)=8 by omega] at this
 rw [this,List.countP_append]
 have h2:((List.range (8 - n)).map (n + ·)).countP (fun j=>decide (j < n) && p j)=0:=by
  rw [List.countP_eq_zero]
  intro x hx
  simp at hx
  obtain ⟨y,_,rfl⟩:=hx
  have:¬ n + y < n:=by omega
  simp only [this,decide_false,um,ya,not_false_eq_true]
 rw [h2,Nat.add_zero]
 apply List.countP_congr
 intro x hx
 simp at hx
 simp [hx]
theorem QA {p:Nat→Bool} {n:Nat} (hn:n≤8):mkm p n < 256:=by
 have:=Yd (p:=p) (n:=n)
 have:=vE (n:=2) (by decide) hn
 omega
def zP (p:Nat→Bool) (n:Nat):List Int:=((List.range n).filter p).map fun (j:Nat)=>(j:Int)
theorem wt {p:Nat→Bool} {n:Nat}:(zP p n).length=xc p n:=by
 simp [zP,xc,List.countP_eq_length_filter]
theorem Xa {p:Nat→Bool} {n:Nat}:zP p (n + 1)=zP p n++(if p n then [(n:Int)] else []):=by
 simp only [zP,List.range_succ,List.filter_append,List.map_append]
 by_cases h:p n=true
 · simp [h]
 · rw [Bool.not_eq_true] at h;simp [h]
theorem zcD {p q:Nat→Bool} {n:Nat} (h:∀ j,j < n→p j=q j):zP p n=zP q n:=by
 unfold zP
 congr 1
 apply List.filter_congr
 intro x hx
 exact h x (by simpa using hx)
theorem YP {p:Nat→Bool} {n:Nat}:xc p n≤n:=by
 have:=List.countP_le_length (p:=p) (l:=List.range n)
 unfold xc;simpa using this
theorem N2:∀ (n:Nat) (l:List Int),l.Nodup→(∀ x∈l,0≤x∧x < n)→xc (fun j=>decide ((j:Int)∈l)) n=l.length
 | 0,l,_,h=>by
   cases l with
   | nil=>rfl
   | cons x l=>have:=h x (by simp);omega
 | n + 1,l,hn,h=>by
   have hs:∀ x∈l.erase (n:Int),0≤x∧x < n:=by
    intro x hx
    have h1:=(hn.mem_erase_iff).1 hx
    have:=h x h1.2
    omega
   have ih:=N2 n (l.erase (n:Int)) (hn.erase _) hs
   have hc:xc (fun j=>decide ((j:Int)∈l.erase (n:Int))) n=xc (fun j=>decide ((j:Int)∈l)) n:=by
    apply vT
    intro j hj
    rw [yQ]
    simp only [ye]
    rw [List.mem_erase_of_ne (by omega)]
   rw [hc] at ih
   unfold xc at *
   rw [List.range_succ,List.countP_append,ih]
   by_cases hm:(n:Int)∈l
   · rw [List.length_erase_of_mem hm]
     have:=List.length_pos_of_mem hm
     simp [hm];omega
   · rw [List.erase_of_not_mem hm]
     simp [hm]
def Srt (l:List Int):Prop:=l.Pairwise (· < ·)
theorem zeu:∀ (a b:List Int),Srt a→Srt b→(∀ y,y∈a↔y∈b)→a=b
 | [],[],_,_,_=>rfl
 | [],y :: b,_,_,h=>by have:=(h y).2 (by simp);cases this
 | x :: a,[],_,_,h=>by have:=(h x).1 (by simp);cases this
 | x :: a,y :: b,ha,hb,h=>by
   unfold Srt at ha hb
   rw [List.pairwise_cons] at ha hb
   have e:x=y:=by
    have h1:=(h x).1 (by simp)
    have h2:=(h y).2 (by simp)
    rcases zW.1 h1 with e | h1
    · exact e
    · rcases zW.1 h2 with e | h2
      · exact e.symm
      · have:=ha.1 y h2;have:=hb.1 x h1;omega
   subst e
   congr 1
   refine zeu a b ha.2 hb.2 fun y=>?_
   have:=h y
   simp only [zW] at this
   constructor
   · intro hy
     rcases this.1 (.inr hy) with e | h'
     · have:=ha.1 y hy;omega
     · exact h'
   · intro hy
     rcases this.2 (.inr hy) with e | h'
     · have:=hb.1 y hy;omega
     · exact h'
theorem wJ {p:Nat→Bool} {n:Nat} {y:Int}:y∈zP p n↔∃ j:Nat,y=j∧j < n∧p j=true:=by
 unfold zP
 simp only [xY,List.mem_filter,List.mem_range]
 constructor
 · rintro ⟨j,⟨h1,h2⟩,rfl⟩;exact ⟨j,rfl,h1,h2⟩
 · rintro ⟨j,rfl,h1,h2⟩;exact ⟨j,⟨h1,h2⟩,rfl⟩
theorem W7 {p:Nat→Bool} {n:Nat}:Srt (zP p n):=by
 unfold Srt zP
 rw [List.pairwise_map]
 have h1:(List.range n).Pairwise (· < ·):=List.pairwise_lt_range
 exact (List.Pairwise.filter _ h1).imp fun h=>by omega
theorem zf1 {l:List Int} {p:Nat→Bool} {n:Nat} (h:Srt l) (hm:∀ y,y∈l↔∃ j:Nat,y=j∧j < n∧p j=true):l=zP p n:=
 zeu _ _ h W7 fun y=>(hm y).trans wJ.symm
def Jf (f:Nat→Nat):Nat→Nat
 | 0=>0
 | n + 1=>Jf f n + f n
theorem JL {f g:Nat→Nat}:∀ {n:Nat},(∀ i,i < n→f i=g i)→Jf f n=Jf g n
 | 0,_=>rfl
 | n + 1,h=>by simp only [Jf];rw [JL (n:=n) (fun i hi=>h i (by omega)),h n (by omega)]
theorem zcF:∀ {n:Nat},Jf (fun _=>0) n=0
 | 0=>rfl
 | n + 1=>by simp [Jf,zcF (n:=n)]
theorem zef {f g:Nat→Nat}:∀ {n:Nat},Jf (fun i=>f i + g i) n=Jf f n + Jf g n
 | 0=>rfl
 | n + 1=>by simp only [Jf];rw [zef (n:=n)];omega
theorem Qj {f:Nat→Nat} {a:Nat}:∀ {n:Nat},a < n→Jf (fun y=>if y=a then f y else 0) n=f a
 | 0,h=>by omega
 | n + 1,h=>by
   simp only [Jf]
   by_cases e:n=a
   · subst e
     rw [if_pos rfl,JL (g:=fun _=>0) (fun i hi=>if_neg (by omega)),zcF];omega
   · rw [if_neg e,Qj (n:=n) (by omega)];rfl
theorem Xm {p:Nat→Bool}:∀ {n:Nat},xc p n=Jf (fun j=>if p j then 1 else 0) n
 | 0=>rfl
 | n + 1=>by
   have:xc p (n + 1)=xc p n + (if p n then 1 else 0):=by
    unfold xc
    rw [List.range_succ,List.countP_append]
    by_cases h:p n=true <;> simp [h]
   rw [this,Xm (n:=n)];rfl
theorem Nj {m i:Nat} (hi:i≤64):Uq .i64 (m:Int) (i:Int)=some ((m / 2 ^ i:Nat):Int):=by
 rw [zfc,Nat.min_eq_left hi]
theorem WV {F n:Nat} {p:Nat→Bool} (hn:n≤8) (hF:20≤F):uH F ((mkm p n:Nat):Int)=some (zP p n):=by
 have key:∀ d k i (l:NL Int),i + d=n→d < k→l.list=zP p i→vl F ((mkm p n:Nat):Int) k l (i:Int)=some (zP p n):=by
  intro d
  induction d with
  | zero=>
    intro k i l hi hk hl
    obtain ⟨k,rfl⟩:∃ k',k=k' + 1:=⟨k - 1,by omega⟩
    obtain rfl:i=n:=by omega
    simp only [vl]
    rw [Nj (by omega),zb,Nat.div_eq_of_lt Yd,hl];rfl
  | succ d ih=>
    intro k i l hi hk hl
    obtain ⟨k,rfl⟩:∃ k',k=k' + 1:=⟨k - 1,by omega⟩
    simp only [vl,Y2]
    rw [Nj (by omega),zb]
    have hw:w64 ((i:Int) + 1)=((i + 1:Nat):Int):=yl (n:=n) (by omega) (by unfold Sm;omega)
    by_cases hz:mkm p n / 2 ^ i=0
    · have:(((mkm p n / 2 ^ i:Nat):Int) != 0)=false:=by rw [hz];rfl
      rw [this,zk,hl]
      have hlt:mkm p n < 2 ^ i:=by
       rcases Nat.div_eq_zero_iff.1 hz with h | h
       · have:=wW i;omega
       · exact h
      have hp:∀ j,i≤j→j < n→p j=false:=by
       intro j h1 h2
       have hb:=yy (p:=p) n j
       have:(mkm p n).testBit j=false:=Nat.testBit_lt_two_pow (uy hlt (vE (by decide) h1))
       rw [this] at hb
       simpa [h2] using hb.symm
      have:∀ e,i + e≤n→zP p (i + e)=zP p i:=by
       intro e
       induction e with
       | zero=>intro _;rfl
       | succ e ihe=>intro he;rw [show i + (e + 1)=(i + e) + 1 by omega,Xa,hp (i + e) (by omega) (by omega),ihe (by omega)];simp
      have h3:=this (n - i) (by omega)
      rw [show i + (n - i)=n by omega] at h3
      rw [h3]
    · have:(((mkm p n / 2 ^ i:Nat):Int) != 0)=true:=by
       rw [bne_iff_ne];intro h;exact hz (by exact_mod_cast h)
      rw [this,zj]
      obtain ⟨q,hq,hq1,_⟩:=zdE (m:=mkm p n) (j:=i) (wC (by omega)) (by omega)
      have hd:decide (i < n)=true:=zw (by omega)
      have hq':((mkm p n / 2 ^ i:Nat):Int)=q:=Option.some.inj (by rw [← Nj (by omega),hq])
      rw [zb,hq',hq1,yy,hd,yk,hw]
      have hc:=YP (p:=p) (n:=i)
      have hs:=Xa (p:=p) (n:=i)
      cases hp:p i with
      | true=>
        rw [zj,hl,XC (by rw [wt];omega),zb]
        refine ih k (i + 1) _ (by omega) (by omega) ?_
        rw [hs,hp];rfl
      | false=>
        rw [zk]
        refine ih k (i + 1) _ (by omega) (by omega) ?_
        rw [hs,hp,hl];simp
 unfold uH
 exact key n F 0 .nil (by omega) (by omega) rfl
/-! the number of edges that leave a set,counted by edges and by nodes -/
def yS (l:List Int) (i:Nat) (j:Nat):Bool:=decide ((j:Int)∈l.take i)
theorem vV {l:List Int} {i x:Nat} (hi:i < l.length) (hx:l.getD i 0=(x:Int)):∀ j,yS l (i + 1) j=(yS l i j || j == x):=by
 intro j
 unfold yS
 rw [List.take_add_one,z9 hi,yQ]
 have:l[i]=(x:Int):=by rw [← hx,zM,z9 hi];rfl
 have h2:((j:Int)=(x:Int))↔j=x:=by omega
 simp [this,h2]
theorem uV {p:Nat→Bool} {n i:Nat} (hi:i < (zP p n).length):∃ j:Nat,(zP p n).getD i 0=j∧j < n∧p j=true:=wJ.1 (wN hi)
theorem zaW {l:List Int} (h:Srt l) {i j:Nat} (hij:i < j) (hj:j < l.length):l.getD i 0 < l.getD j 0:=by
 have:=List.pairwise_iff_getElem.1 h i j (by omega) hj hij
 rw [zM,z9 (by omega),zM,z9 hj]
 exact this
def vF (l:List Int) (x:Int):Nat:=l.findIdx fun y=>!decide (y < x)
theorem zcT {l:List Int} {x:Int} {j:Nat} (hj:j < vF l x) (hl:j < l.length):l.getD j 0 < x:=by
 have:=List.not_of_lt_findIdx (p:=fun y=>!decide (y < x)) (xs:=l) hj
 rw [zM,z9 hl]
 simpa using this
theorem zb0 {l:List Int} {x:Int} (h:vF l x < l.length):¬ l.getD (vF l x) 0 < x:=by
 have:=List.findIdx_getElem (p:=fun y=>!decide (y < x)) (xs:=l) (w:=h)
 rw [zM,z9 h]
 intro hlt
 simp only [yd] at hlt
 have e:l[List.findIdx (fun y=>!decide (y < x)) l] < x:=hlt
 rw [zw e] at this
 cases this
theorem ziC {l:List Int} {x:Int}:vF l x≤l.length:=List.findIdx_le_length
theorem zb8 {α:Type} {xs:List α} {i:Nat} (h:i≤xs.length):sub xs (i:Int) (xs.length:Int)=some (xs.drop i):=by
 unfold sub
 rw [if_pos ⟨by omega,by omega,by omega⟩]
 simp only [yh]
 rw [List.take_of_length_le (by simp)]
theorem Ll {α:Type} {xs:List α} {i:Nat} (h:i≤xs.length):sub xs 0 (i:Int)=some (xs.take i):=by
 unfold sub
 rw [if_pos ⟨by omega,by omega,by omega⟩]
 simp
theorem Nc {α:Type} {xs ys:List α} (h:xs.length + ys.length≤1099511627776):vL xs ys=some (xs++ys):=by
 unfold vL
 rw [if_pos]
 have:(2:Nat) ^ 40=1099511627776:=by decide
 omega
def zfV (l:List Int) (x:Int):List Int:=if vF l x < l.length∧l.getD (vF l x) 0=x then l else l.take (vF l x)++[x]++l.drop (vF l x)
theorem zkB {F:Nat} {l:List Int} {x:Int} (hF:l.length < F) (hl:l.length≤1000):JC F l x=some (zfV l x):=by
 unfold JC
 have hle:=ziC (l:=l) (x:=x)
 refine zeL (L:=fun k i=>uK F l x k i) (n:=vF l x) ?_ ?_ F (by omega)
 · intro k i hi
   simp only [uK,Y5]
   have hlt:decide ((i:Int) < (l.length:Int))=true:=zw (by omega)
   have hx:=zcT hi (by omega)
   rw [hlt,zj,yf (d:=0) (by omega),zb,zw hx,zj,yl hi (by unfold Sm;omega)]
 · intro k
   have hfin:Y6 F l x (vF l x:Int) false=some (l.take (vF l x)++[x]++l.drop (vF l x)):=by
    unfold Y6
    rw [zk,Ll hle,zb,Nc (by simp;omega),zb,Nc (by simp;omega),zb,zb8 hle,zb,Nc (by simp;omega),zb]
    simp
   unfold zfV
   simp only [uK,Y5]
   by_cases h:vF l x < l.length
   · have hlt:decide ((vF l x:Int) < (l.length:Int))=true:=zw (by omega)
     have hx:=zb0 h
     rw [hlt,zj,yf (d:=0) h,zb,zJ hx,zk,zj,zb]
     by_cases e:l.getD (vF l x) 0=x
     · have:(l.getD (vF l x) 0 == x)=true:=by simpa using e
       rw [this,if_pos ⟨h,e⟩];rfl
     · have:(l.getD (vF l x) 0 == x)=false:=by rw [beq_eq_false_iff_ne];exact e
       rw [this,if_neg (fun h=>e h.2)];exact hfin
   · have hlt:decide ((vF l x:Int) < (l.length:Int))=false:=zJ (by omega)
     rw [hlt,zk,zk,zk,if_neg (fun h'=>h h'.1)];exact hfin
theorem zg1 {l:List Int} {x y:Int}:y∈zfV l x↔y∈l∨y=x:=by
 unfold zfV
 split
 · rename_i h
   constructor
   · exact .inl
   · rintro (h' | h')
     · exact h'
     · rw [h',← h.2];exact wN h.1
 · have:y∈l↔y∈l.take (vF l x)∨y∈l.drop (vF l x):=by
    rw [← zG,Ze]
   rw [this]
   simp only [zG,xX]
   constructor
   · rintro ((h | h) | h)
     · exact .inl (.inl h)
     · exact .inr h
     · exact .inl (.inr h)
   · rintro ((h | h) | h)
     · exact .inl (.inl h)
     · exact .inr h
     · exact .inl (.inr h)
theorem zjd {l:List Int} {x:Int} (h:Srt l):Srt (zfV l x):=by
 unfold zfV
 split
 · exact h
 · rename_i hn
   have ht:∀ y∈l.take (vF l x),y < x:=by
    intro y hy
    obtain ⟨i,hi,rfl⟩:=w4.1 hy
    have hi':i < vF l x∧i < l.length:=by simp at hi;omega
    have:=zcT hi'.1 hi'.2
    rw [zM,z9 hi'.2] at this
    simpa using this
   have hd:∀ y∈l.drop (vF l x),x < y:=by
    intro y hy
    obtain ⟨i,hi,rfl⟩:=w4.1 hy
    have hi':vF l x + i < l.length:=by simp at hi;omega
    have h1:=zb0 (l:=l) (x:=x) (by omega)
    have h2:l.getD (vF l x) 0≠x:=fun e=>hn ⟨by omega,e⟩
    have h3:l.getD (vF l x) 0≤l.getD (vF l x + i) 0:=by
     by_cases e:i=0
     · subst e;exact Int.le_refl _
     · exact Int.le_of_lt (zaW h (by omega) hi')
    have h4:l.getD (vF l x + i) 0=(l.drop (vF l x))[i]:=by
     rw [List.getElem_drop,zM,z9 hi'];rfl
    omega
   unfold Srt at h ⊢
   have h0:(l.take (vF l x)++l.drop (vF l x)).Pairwise (· < ·):=by rw [Ze];exact h
   rw [List.pairwise_append] at h0
   rw [X2,List.pairwise_append]
   refine ⟨h0.1,?_,?_⟩
   · rw [List.singleton_append,List.pairwise_cons]
     exact ⟨hd,h0.2.1⟩
   · intro a ha b hb
     rw [List.singleton_append,zW] at hb
     rcases hb with rfl | hb
     · exact ht a ha
     · exact h0.2.2 a ha b hb
theorem zmH {F n x:Nat} {p:Nat→Bool} (hn:n≤8) (hx:x < n) (hF:20≤F):JC F (zP p n) (x:Int)=some (zP (fun j=>p j || j == x) n):=by
 have hc:=YP (p:=p) (n:=n)
 rw [zkB (by rw [wt];omega) (by rw [wt];omega)]
 congr 1
 refine zf1 (zjd W7) fun y=>?_
 rw [zg1,wJ]
 constructor
 · rintro (⟨j,rfl,h1,h2⟩ | rfl)
   · exact ⟨j,rfl,h1,by simp [h2]⟩
   · exact ⟨x,rfl,hx,by simp⟩
 · rintro ⟨j,rfl,h1,h2⟩
   simp only [yB,yC] at h2
   rcases h2 with h2 | h2
   · exact .inl ⟨j,rfl,h1,h2⟩
   · exact .inr (by omega)
theorem zfO {F n:Nat} {p:Nat→Bool} {x:Nat} (hn:n≤8) (hx:x < n) (hF:20≤F):ul F (zP p n) (x:Int)=some (p x):=by
 have hc:=YP (p:=p) (n:=n)
 rw [Wn (by rw [wt];omega) (by rw [wt];unfold Sm;omega)]
 congr 1
 rw [yQ,ye,wJ]
 constructor
 · rintro ⟨j,h1,_,h3⟩;obtain rfl:x=j:=by omega
   exact h3
 · exact fun h=>⟨x,rfl,hx,h⟩
theorem zko {p:Nat→Bool} {n:Nat}:mkm p (n + 1)=mkm p n + (if p n then 2 ^ n else 0):=by
 by_cases h:p n=true
 · rw [if_pos h]
   have hlt:=Yd (p:=p) (n:=n)
   have:mkm p n + 2 ^ n=2 ^ n * 1 + mkm p n:=by omega
   rw [this,Nat.two_pow_add_eq_or_of_lt hlt 1]
   rw [mkm,if_pos h,Nat.or_comm,Nat.mul_one]
 · rw [if_neg h,mkm,if_neg h];simp
def stp (g:Gr) (p q:Nat→Bool) (j:Nat):Bool:=q j || (p j && ui (fun y=>q y && adj g y j) g.1.toNat)
def rch (g:Gr) (p:Nat→Bool) (x:Nat):Nat→Nat→Bool
 | 0=>fun j=>j == x
 | t + 1=>stp g p (rch g p x t)
def ZU (g:Gr) (p:Nat→Bool) (x:Nat):Nat→Bool:=rch g p x g.1.toNat
theorem Us {g:Gr} {p q:Nat→Bool} {j:Nat}:stp g p q j=true↔q j=true∨(p j=true∧∃ y,y < g.1.toNat∧q y=true∧adj g y j=true):=by
 unfold stp
 rw [yB,zl,xu]
 constructor
 · rintro (h | ⟨h,y,h1,h2⟩)
   · exact .inl h
   · rw [zl] at h2;exact .inr ⟨h,y,h1,h2.1,h2.2⟩
 · rintro (h | ⟨h,y,h1,h2,h3⟩)
   · exact .inl h
   · exact .inr ⟨h,y,h1,by rw [h2,h3];rfl⟩
theorem Uj {g:Gr} {p:Nat→Bool} {x t j:Nat} (h:rch g p x t j=true):∀ s,t≤s→rch g p x s j=true:=by
 intro s hs
 induction s with
 | zero=>obtain rfl:t=0:=by omega
         exact h
 | succ s ih=>
   by_cases e:t=s + 1
   · subst e;exact h
   · exact Us.2 (.inl (ih (by omega)))
theorem Q2 {g:Gr} {p:Nat→Bool} {x:Nat} (hx:p x=true):∀ t j,rch g p x t j=true→p j=true
 | 0,j,h=>by
   have:j=x:=by simpa [rch] using h
   subst this;exact hx
 | t + 1,j,h=>by
   rcases Us.1 h with h | h
   · exact Q2 hx t j h
   · exact h.1
theorem zan {g:Gr} (hg:yT g=true) {p:Nat→Bool} {x:Nat} (hx:x < g.1.toNat):∀ t j,rch g p x t j=true→j < g.1.toNat
 | 0,j,h=>by
   have:j=x:=by simpa [rch] using h
   subst this;exact hx
 | t + 1,j,h=>by
   rcases Us.1 h with h | ⟨_,y,_,_,h⟩
   · exact zan hg hx t j h
   · have:=Uv hg h
     have:=zT hg
     omega
theorem QL {g:Gr} {p C:Nat→Bool} {x:Nat} (hx:C x=true) (hC:∀ y j,C y=true→p j=true→adj g y j=true→C j=true):∀ t j,rch g p x t j=true→C j=true
 | 0,j,h=>by
   have:j=x:=by simpa [rch] using h
   subst this;exact hx
 | t + 1,j,h=>by
   rcases Us.1 h with h | ⟨h1,y,_,h2,h3⟩
   · exact QL hx hC t j h
   · exact hC y j (QL hx hC t y h2) h1 h3
theorem zap {p q:Nat→Bool}:∀ {n:Nat},(∀ j,j < n→p j=true→q j=true)→(∃ j,j < n∧p j=false∧q j=true)→xc p n + 1≤xc q n
 | 0,_,⟨_,h,_⟩=>by omega
 | n + 1,h,⟨j,hj,h1,h2⟩=>by
   rw [Xm,Xm]
   simp only [Jf]
   rw [← Xm,← Xm]
   by_cases e:j=n
   · subst e
     have hle:xc p j≤xc q j:=by
      unfold xc
      apply List.countP_mono_left
      intro x hx
      exact h x (by have:=List.mem_range.1 hx;omega)
     rw [h1,h2];simp;omega
   · have ih:=zap (p:=p) (q:=q) (n:=n) (fun j hj=>h j (by omega)) ⟨j,by omega,h1,h2⟩
     have hn:=h n (by omega)
     by_cases hp:p n=true
     · rw [hp,hn hp];simp;omega
     · rw [Bool.not_eq_true] at hp;rw [hp];simp;omega
theorem MS {p q:Nat→Bool} {n:Nat} (h:∀ j,j < n→p j=true→q j=true):xc p n≤xc q n:=by
 unfold xc
 apply List.countP_mono_left
 intro x hx
 exact h x (List.mem_range.1 hx)
theorem Kx {g:Gr} {p:Nat→Bool} {x t:Nat} (h:∀ j,rch g p x (t + 1) j=true→rch g p x t j=true):∀ s j,rch g p x (t + s) j=true→rch g p x t j=true
 | 0,j,hj=>hj
 | s + 1,j,hj=>by
   rcases Us.1 (show stp g p (rch g p x (t + s)) j=true from hj) with h1 | ⟨h1,y,hy,h2,h3⟩
   · exact Kx h s j h1
   · exact h j (Us.2 (.inr ⟨h1,y,hy,Kx h s y h2,h3⟩))
theorem MD {g:Gr} (hg:yT g=true) {p:Nat→Bool} {x:Nat} (hx:x < g.1.toNat) (hp:p x=true):∃ t,t < xc p g.1.toNat∧∀ j,rch g p x (t + 1) j=true→rch g p x t j=true:=by
 apply Classical.byContradiction
 intro hne
 have hstep:∀ t,t < xc p g.1.toNat→∃ j,rch g p x (t + 1) j=true∧rch g p x t j=false:=by
  intro t ht
  apply Classical.byContradiction
  intro hno
  apply hne
  refine ⟨t,ht,fun j hj=>?_⟩
  cases h:rch g p x t j with
  | true=>rfl
  | false=>exact absurd ⟨j,hj,h⟩ hno
 have hgrow:∀ t,t≤xc p g.1.toNat→t + 1≤xc (rch g p x t) g.1.toNat:=by
  intro t
  induction t with
  | zero=>
    intro _
    have:=zap (p:=fun _=>false) (q:=rch g p x 0) (n:=g.1.toNat) (by simp) ⟨x,hx,rfl,by simp [rch]⟩
    omega
  | succ t ih=>
    intro ht
    have h1:=ih (by omega)
    obtain ⟨j,hj1,hj2⟩:=hstep t (by omega)
    have:=zap (p:=rch g p x t) (q:=rch g p x (t + 1)) (n:=g.1.toNat) (fun j _ h=>Uj h _ (by omega)) ⟨j,zan hg hx _ j hj1,hj2,hj1⟩
    omega
 have h1:=hgrow (xc p g.1.toNat) (xi _)
 have h2:xc (rch g p x (xc p g.1.toNat)) g.1.toNat≤xc p g.1.toNat:=MS fun j _ h=>Q2 hp _ j h
 omega
theorem zcd {g:Gr} (hg:yT g=true) {p:Nat→Bool} {x:Nat} (hx:x < g.1.toNat) (hp:p x=true) {s:Nat} (hs:xc p g.1.toNat≤s + 1):∀ j,rch g p x s j=ZU g p x j:=by
 intro j
 obtain ⟨t,ht,hst⟩:=MD hg hx hp
 have hcn:=YP (p:=p) (n:=g.1.toNat)
 have key:∀ s,t≤s→(rch g p x s j=true↔rch g p x t j=true):=fun s hs=>⟨fun h=>by
  have:s=t + (s - t):=by omega
  rw [this] at h;exact Kx hst (s - t) j h,fun h=>Uj h s hs⟩
 rw [yQ,key s (by omega)]
 unfold ZU
 rw [key g.1.toNat (by omega)]
theorem vh {g:Gr} {p:Nat→Bool} {x:Nat}:ZU g p x x=true:=Uj (t:=0) (by simp [rch]) _ (Nat.zero_le _)
theorem Qy {g:Gr} {p:Nat→Bool} {x j:Nat} (hx:p x=true) (h:ZU g p x j=true):p j=true:=Q2 hx _ j h
theorem zew {g:Gr} (hg:yT g=true) {p:Nat→Bool} {x j:Nat} (hx:x < g.1.toNat) (h:ZU g p x j=true):j < g.1.toNat:=zan hg hx _ j h
theorem w8 {g:Gr} (hg:yT g=true) {p:Nat→Bool} {x y j:Nat} (hx:x < g.1.toNat) (hp:p x=true) (hy:ZU g p x y=true) (hj:p j=true) (ha:adj g y j=true):ZU g p x j=true:=by
 have hcn:=YP (p:=p) (n:=g.1.toNat)
 have:=zcd hg hx hp (s:=g.1.toNat + 1) (by omega) j
 rw [← this]
 exact Us.2 (.inr ⟨hj,y,zew hg hx hy,hy,ha⟩)
theorem XF {g:Gr} {p C:Nat→Bool} {x j:Nat} (hx:C x=true) (hC:∀ y j,C y=true→p j=true→adj g y j=true→C j=true) (h:ZU g p x j=true):C j=true:=QL hx hC _ j h
def Z8 (p:Nat→Bool):Nat→Option Nat
 | 0=>none
 | n + 1=>match Z8 p n with
   | some x=>some x
   | none=>if p n then some n else none
theorem uM {p:Nat→Bool}:∀ {n:Nat},Z8 p n=none↔∀ j,j < n→p j=false
 | 0=>by simp [Z8]
 | n + 1=>by
   have ih:=uM (p:=p) (n:=n)
   simp only [Z8]
   cases h:Z8 p n with
   | some x=>
     simp only [reduceCtorEq,false_iff]
     intro hj
     have:=ih.2 (fun j hj'=>hj j (by omega))
     rw [h] at this;cases this
   | none=>
     simp only
     have h1:=ih.1 h
     by_cases hp:p n=true
     · rw [if_pos hp]
       simp only [reduceCtorEq,false_iff]
       intro hj;have:=hj n (by omega);rw [hp] at this;cases this
     · rw [if_neg hp]
       simp only [true_iff]
       intro j hj
       by_cases e:j=n
       · subst e;simpa using hp
       · exact h1 j (by omega)
theorem Z2 {p:Nat→Bool} {x:Nat}:∀ {n:Nat},Z8 p n=some x→x < n∧p x=true∧∀ j,j < x→p j=false
 | 0,h=>by simp [Z8] at h
 | n + 1,h=>by
   simp only [Z8] at h
   cases h1:Z8 p n with
   | some y=>
     rw [h1] at h
     simp only [zg] at h
     subst h
     have:=Z2 h1
     exact ⟨by omega,this.2⟩
   | none=>
     rw [h1] at h
     simp only at h
     split at h
     · rename_i hp
       simp only [zg] at h
       subst h
       exact ⟨by omega,hp,uM.1 h1⟩
     · cases h
theorem ziD {p:Nat→Bool} {n:Nat}:mkm p n=0↔Z8 p n=none:=by
 rw [uM]
 constructor
 · intro h j hj
   have:=yy (p:=p) n j
   rw [h,X6] at this
   simpa [hj] using this.symm
 · intro h
   apply ZW;intro j
   rw [yy,X6]
   by_cases hj:j < n
   · simp [h j hj]
   · simp [hj]
theorem zjY {p q:Nat→Bool} {n:Nat} (h:mkm p n=mkm q n):∀ j,j < n→p j=q j:=by
 intro j hj
 have h1:=yy (p:=p) n j
 have h2:=yy (p:=q) n j
 rw [h,h2] at h1
 simpa [hj] using h1.symm
theorem Mb {L:Nat→Int→Option Int} {n:Nat} {p:Nat→Bool} (hs:∀ k i,i < n→L (k + 1) (i:Int)=bif p i then some (i:Int) else L k ((i + 1:Nat):Int)) (he:∀ k,L (k + 1) (n:Int)=some (-1)) :
    ∀ k,n < k→∃ r,L k 0=some r∧decide (r≥0)=ui p n∧∀ i,Z8 p n=some i→r=i:=by
 have key:∀ d k i,i + d=n→d < k→(∀ j,j < i→p j=false)→∃ r,L k (i:Int)=some r∧decide (r≥0)=ui p n∧∀ i,Z8 p n=some i→r=i:=by
  intro d
  induction d with
  | zero=>
    intro k i hi hk hp
    obtain ⟨k,rfl⟩:∃ k',k=k' + 1:=⟨k - 1,by omega⟩
    obtain rfl:i=n:=by omega
    refine ⟨-1,he k,?_,?_⟩
    · have:ui p i=false:=by
       rw [Bool.eq_false_iff];intro h
       obtain ⟨j,hj,h⟩:=xu.1 h
       rw [hp j hj] at h;cases h
      rw [this];decide
    · intro j hj
      have:=Z2 hj
      rw [hp j this.1] at this;cases this.2.1
  | succ d ih=>
    intro k i hi hk hp
    obtain ⟨k,rfl⟩:∃ k',k=k' + 1:=⟨k - 1,by omega⟩
    rw [hs k i (by omega)]
    cases hpi:p i with
    | true=>
      refine ⟨i,by rw [zj],?_,?_⟩
      · rw [xu.2 ⟨i,by omega,hpi⟩];simp
      · intro j hj
        obtain ⟨h1,h2,h3⟩:=Z2 hj
        have a1:¬ i < j:=fun h=>by rw [h3 i h] at hpi;cases hpi
        have a2:¬ j < i:=fun h=>by rw [hp j h] at h2;cases h2
        omega
    | false=>
      rw [zk]
      refine ih k (i + 1) (by omega) (by omega) ?_
      intro j hj
      by_cases e:j=i
      · subst e;exact hpi
      · exact hp j (by omega)
 intro k hk
 exact key n k 0 (by omega) hk (fun j hj=>absurd hj (by omega))
theorem zhj {α:Type} {xs:List α} {i:Nat} (h:i≤xs.length):sub xs 0 (i:Int)=some (xs.take i):=by
 unfold sub
 rw [if_pos ⟨by omega,by omega,by omega⟩]
 simp
def zdH (xs:List (List Int)):Nat→Nat
 | 0=>0
 | i + 1=>zdH xs i + (xs.getD i []).length
theorem NH {xs:List (List Int)}:∀ {i j:Nat},i≤j→zdH xs i≤zdH xs j
 | i,0,h=>by obtain rfl:i=0:=by omega
             exact xi _
 | i,j + 1,h=>by
   by_cases e:i=j + 1
   · subst e;exact xi _
   · have:=NH (xs:=xs) (i:=i) (j:=j) (by omega)
     simp only [zdH];omega
theorem zj4 {xs:List (List Int)} {i:Nat} (h:i < xs.length):(xs.getD i []).length≤zdH xs xs.length:=by
 have:=NH (xs:=xs) (i:=i + 1) (j:=xs.length) (by omega)
 simp only [zdH] at this;omega
def Ku (v:Int→Int) (s:Option Int) (y:Int):Option Int:=match s with
 | none=>some (v y)
 | some b=>if v y < b then some (v y) else some b
def mnO (v:Int→Int) (l:List Int):Option Int:=l.foldl (Ku v) none
def mn (v:Int→Int) (l:List Int) (nn:Int):Int:=(mnO v l).getD nn
theorem zb5 {v:Int→Int} {l:List Int} {y:Int}:mnO v (l++[y])=Ku v (mnO v l) y:=by simp [mnO,List.foldl_append]
theorem zcB {v:Int→Int}:∀ {l:List Int},mnO v l=none↔l=[]:=by
 intro l
 constructor
 · intro h
   cases hl:l.reverse with
   | nil=>simpa using hl
   | cons y ys=>
     have:l=ys.reverse++[y]:=by rw [← List.reverse_reverse l,hl];simp
     rw [this,zb5] at h
     unfold Ku at h
     split at h
     · cases h
     · split at h <;> cases h
 · rintro rfl;rfl
theorem zia {v:Int→Int} {nn:Int}:mn v [] nn=nn:=rfl
theorem zeN {v:Int→Int} {l:List Int} {y nn:Int}:mn v (l++[y]) nn=if l=[]∨v y < mn v l nn then v y else mn v l nn:=by
 unfold mn
 rw [zb5]
 cases h:mnO v l with
 | none=>
   have:=zcB.1 h
   rw [if_pos (.inl this)];rfl
 | some b=>
   have hne:l≠[]:=fun e=>by rw [zcB.2 e] at h;cases h
   simp only [Ku,yd,hne,false_or]
   split <;> rfl
theorem zgJ {v w:Int→Int} {nn:Int} {l:List Int} (h:∀ y∈l,v y=w y):mn v l nn=mn w l nn:=by
 have key:∀ (l:List Int) (s:Option Int),(∀ y∈l,v y=w y)→l.foldl (Ku v) s=l.foldl (Ku w) s:=by
  intro l
  induction l with
  | nil=>intro s _;rfl
  | cons y l ih=>
    intro s h
    simp only [List.foldl_cons]
    have:Ku v s y=Ku w s y:=by
     unfold Ku
     rw [h y (by simp)]
    rw [this]
    exact ih _ fun z hz=>h z (by simp [hz])
 unfold mn mnO
 rw [key l none h]
theorem zkT {v:Int→Int} {nn t:Int} {l:List Int} (hl:l≠[]):mn v l nn≤t↔∃ y∈l,v y≤t:=by
 have key:∀ (r:List Int),r≠[]→(mn v r.reverse nn≤t↔∃ y∈r,v y≤t):=by
  intro r
  induction r with
  | nil=>intro h;exact absurd rfl h
  | cons y r ih=>
    intro _
    rw [List.reverse_cons,zeN]
    by_cases hr:r=[]
    · subst hr
      simp
    · have hr':r.reverse≠[]:=by simpa using hr
      have:=ih hr
      simp only [hr',false_or,zW,exists_eq_or_imp]
      split
      · rename_i h
        constructor
        · intro h1;exact .inl h1
        · rintro (h1 | h1)
          · exact h1
          · have:=this.2 h1;omega
      · rename_i h
        constructor
        · intro h1;exact .inr (this.1 h1)
        · rintro (h1 | h1)
          · omega
          · exact this.2 h1
 have:=key l.reverse (by simpa using hl)
 simpa using this
def XD (n m:Nat):List Int:=zP (fun x=>!m.testBit x) n
theorem Ui {n m:Nat} {y:Int}:y∈XD n m↔∃ x:Nat,y=x∧x < n∧m.testBit x=false:=by
 unfold XD
 rw [wJ]
 simp
theorem zaF:∀ c:Nat,c < 256→∀ y:Nat,y < 8→c.testBit y=false→c ||| 2 ^ y=c + 2 ^ y:=by decide +kernel
theorem zlu {n m:Nat} (hn:n≤8) (h:m < 2 ^ n):m < 256:=uy h (by
 have:=vE (n:=2) (by decide) hn
 simpa using this)
theorem zli {n m x:Nat} (h:m < 2 ^ n) (hx:x < n):m ||| 2 ^ x < 2 ^ n:=Nat.or_lt_two_pow h (Nat.pow_lt_pow_right (by decide) hx)
theorem zeZ {n m:Nat} (h:m < 2 ^ n) (hb:∀ x,x < n→m.testBit x=true):m=2 ^ n - 1:=by
 apply ZW
 intro j
 rw [Nat.testBit_two_pow_sub_one]
 by_cases hj:j < n
 · rw [hb j hj,zw hj]
 · rw [zJ hj]
   exact Nat.testBit_lt_two_pow (uy h (vE (by decide) (by omega)))
theorem MH {n m:Nat} (h:m < 2 ^ n):XD n m=[]↔m=2 ^ n - 1:=by
 constructor
 · intro h0
   refine zeZ h fun x hx=>?_
   cases hb:m.testBit x with
   | true=>rfl
   | false=>
     have:(x:Int)∈XD n m:=Ui.2 ⟨x,rfl,hx,hb⟩
     rw [h0] at this;cases this
 · rintro rfl
   rw [List.eq_nil_iff_forall_not_mem]
   intro y hy
   obtain ⟨x,_,hx,hb⟩:=Ui.1 hy
   rw [Nat.testBit_two_pow_sub_one,zw hx] at hb;cases hb
def QZ (n:Nat) (c:Nat→Nat→Int) (nn:Int) (T:Nat→Int):Prop:=∀ m,m < 2 ^ n→T m=mn (fun x=>max (c m x.toNat) (T (m ||| 2 ^ x.toNat))) (XD n m) nn
theorem zcf {n m:Nat} (h:m < 2 ^ n):mkm m.testBit n=m:=by
 symm
 refine uu fun j=>?_
 by_cases hj:j < n
 · rw [zw hj,yk]
 · rw [zJ hj,um]
   exact Nat.testBit_lt_two_pow (uy h (vE (by decide) (by omega)))
theorem zdO {n:Nat} (hn:n≤8):2 ^ n≤256:=by
 have:=vE (n:=2) (by decide) hn
 simpa using this
end Go.Zq
