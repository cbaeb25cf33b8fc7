/- Plain mathematics: what the functions answer (part 1). Conditions: stated in each theorem. -/
import Derived.Test.YtelahampjnaimadK3
import Derived.Test.YtelahampjnaimadGT
set_option linter.unusedVariables false
set_option linter.unusedSimpArgs false
namespace Go.Zq
def WS (F:Nat) (x_2:(List Int)) (x_1:(Int×(List (Int×Int)))) (x_42:Int) (x_94:Int) (c1:(List Int)→Int→Option (List Int)) (c4:(List Int)→Int→Option (List Int)) (x_113:(List Int)):Option (List Int):=
 c4 x_113 (w64 (x_94 + 1))
def Ua (F:Nat) (x_2:(List Int)) (x_1:(Int×(List (Int×Int)))) (x_93:(List Int)) (x_42:Int) (x_94:Int) (c1:(List Int)→Int→Option (List Int)) (c4:(List Int)→Int→Option (List Int)) (x_110:Bool):Option (List Int):=
 bif x_110 then
  (idx x_2 x_42).bind fun e_114=>
  (ZH F x_93 e_114).bind fun r_115=>
  WS F x_2 x_1 x_42 x_94 c1 c4 r_115
 else
  WS F x_2 x_1 x_42 x_94 c1 c4 x_93
def u9 (F:Nat) (x_2:(List Int)) (x_1:(Int×(List (Int×Int)))) (x_42:Int) (c1:(List Int)→Int→Option (List Int)):Nat→(List Int)→Int→Option (List Int)
 | 0,_,_=>none
 | k + 1,x_93,x_94=>
   bif decide (x_94 < x_1.1) then
    (idx x_2 x_42).bind fun e_116=>
    (uV F x_1 e_116 x_94).bind fun r_117=>
    bif r_117 then
     (uB F x_2 x_94).bind fun r_118=>
     Ua F x_2 x_1 x_93 x_42 x_94 c1 (u9 F x_2 x_1 x_42 c1 k) (!r_118)
    else
     Ua F x_2 x_1 x_93 x_42 x_94 c1 (u9 F x_2 x_1 x_42 c1 k) false
   else
    c1 x_93 (w64 (x_42 + 1))
def Zj (F:Nat) (x_2:(List Int)) (x_1:(Int×(List (Int×Int)))) :Nat→(List Int)→Int→Option (List Int)
 | 0,_,_=>none
 | k + 1,x_41,x_42=>
   bif decide (x_42 < (x_2.length:Int)) then
    u9 F x_2 x_1 x_42 (Zj F x_2 x_1 k) F x_41 0
   else
    some x_41
def KB (F:Nat) (x_1:(Int×(List (Int×Int)))) (x_2:(List Int)):Option (List Int):=
 Zj F x_2 x_1 F [] 0
def vh (F:Nat) (x_2:(List Int)) (x_1:(Int×(List (Int×Int)))) :Nat→(List Int)→Int→Option ((List Int)×Bool)
 | 0,_,_=>none
 | k + 1,x_9,x_10=>
   bif decide (x_10≤(x_2.length:Int)) then
    (sub x_2 0 x_10).bind fun sub_14=>
    (KB F x_1 sub_14).bind fun r_15=>
    (vW x_9 [(r_15.length:Int)]).bind fun ap_16=>
    (vh F x_2 x_1 k) ap_16 (w64 (x_10 + 1))
   else
    some (x_9,true)
def Y6 (F:Nat) (x_2:(List Int)) (x_1:(Int×(List (Int×Int))))  (x_5:Bool):Option ((List Int)×Bool):=
 bif x_5 then
  some ([],false)
 else
  vh F x_2 x_1 F [] 1
def Kc (F:Nat) (x_1:(Int×(List (Int×Int)))) (x_2:(List Int)):Option ((List Int)×Bool):=
 (uG F x_1).bind fun r_17=>
 bif (!r_17) then
  Y6 F x_2 x_1 true
 else
  (vI F x_1 x_2).bind fun r_18=>
  Y6 F x_2 x_1 (!r_18)
def vQ (F:Nat) (x_2:(List (List Int))) (x_25:Int) (e_44:(List Int)) (x_51:Int) (c1:(NL Int)→Int→Option ((NL Int)×Bool)) (c4:(NL Int)→Int→Option ((NL Int)×Bool)) (x_60:(NL Int)):Option ((NL Int)×Bool):=
 c4 x_60 (w64 (x_51 + 1))
def xg (F:Nat) (x_2:(List (List Int))) (x_25:Int) (e_44:(List Int)) (c1:(NL Int)→Int→Option ((NL Int)×Bool)):Nat→(NL Int)→Int→Option ((NL Int)×Bool)
 | 0,_,_=>none
 | k + 1,x_50,x_51=>
   bif decide (x_51 < (e_44.length:Int)) then
    (idx e_44 x_51).bind fun e_57=>
    (y3 F x_50.list e_57).bind fun r_58=>
    bif (!r_58) then
     (vW x_50.list [e_57]).bind fun ap_61=>
     vQ F x_2 x_25 e_44 x_51 c1 (xg F x_2 x_25 e_44 c1 k) (.of ap_61)
    else
     vQ F x_2 x_25 e_44 x_51 c1 (xg F x_2 x_25 e_44 c1 k) x_50
   else
    c1 x_50 (w64 (x_25 + 1))
def y1 (F:Nat) (x_2:(List (List Int))) :Nat→(NL Int)→Int→Option ((NL Int)×Bool)
 | 0,_,_=>none
 | k + 1,x_24,x_25=>
   bif decide (x_25 < (x_2.length:Int)) then
    (idx x_2 x_25).bind fun e_44=>
    xg F x_2 x_25 e_44 (y1 F x_2 k) F x_24 0
   else
    some (x_24,true)
def xB (F:Nat) (r_6:(S1 (List Int))) (layout_2:(List Int)) :Nat→(List Int)→Int→Int→Option ((NL Int)×Bool)
 | 0,_,_,_=>none
 | k + 1,sizes_12,set_13,t27_14=>
   bif decide (t27_14 < (layout_2.length:Int)) then
    (idx layout_2 t27_14).bind fun e_19=>
    (xx F r_6 set_13 e_19).bind fun r_20=>
    (idx sizes_12 t27_14).bind fun e_21=>
    (UE .i64 1 e_19).bind fun q_22=>
    (xB F r_6 layout_2 k) (sizes_12.set t27_14.toNat r_20) (ior .i64 set_13 q_22) (w64 (t27_14 + 1))
   else
    some ((.of sizes_12),true)
def uy (F:Nat) (layout_2:(List Int)) (g_1:(Int×(List (Int×Int))))  (t19_5:Bool):Option ((NL Int)×Bool):=
 bif t19_5 then
  some (.nil,false)
 else
  (YD F g_1).bind fun r_6=>
  (mkN g_1.1 0).bind fun mk_7=>
  xB F r_6 layout_2 F mk_7 0 0
def XJ (F:Nat) (g_1:(Int×(List (Int×Int)))) (layout_2:(List Int)):Option ((NL Int)×Bool):=
 (wW F g_1).bind fun r_23=>
 bif (!r_23) then
  uy F layout_2 g_1 true
 else
  (Zg F g_1 layout_2).bind fun r_24=>
  uy F layout_2 g_1 (!r_24)
theorem wr {x:Int} (h1:-9223372036854775808≤x) (h2:x < 9223372036854775808):w64 x=x:=by
 show IntKind.wrap .i64 x=x
 simp only [IntKind.wrap,IntKind.bits,IntKind.signed,yg]
 have e1:((2:Int) ^ 64)=18446744073709551616:=by decide
 have e2:((2:Int) ^ (64 - 1))=9223372036854775808:=by decide
 simp only [e1,e2]
 split
 · rename_i h;simp only [ge_iff_le,z9] at h;omega
 · rename_i h;simp only [ge_iff_le,z9] at h;omega
def Sm (n:Nat):Prop:=n≤4611686018427387904
theorem yh {i n:Nat} (hi:i < n) (hn:Sm n):w64 ((i:Int) + 1)=((i + 1:Nat):Int):=by
 unfold Sm at hn
 rw [wr (by omega) (by omega)];omega
theorem JR {i n:Nat} (h0:0 < i) (hi:i < n) (hn:Sm n):w64 ((i:Int) - 1)=((i - 1:Nat):Int):=by
 unfold Sm at hn
 rw [wr (by omega) (by omega)];omega
theorem W7 {α:Type} {xs:List α} {i:Nat} (h:i < xs.length):idx xs (i:Int)=some xs[i]:=by
 unfold idx
 rw [if_pos (by omega)]
 simp [h]
theorem z8 {α:Type} {xs:List α} {i:Nat} {d:α} (h:i < xs.length):idx xs (i:Int)=some (xs.getD i d):=by
 rw [W7 h];simp [h]
def wX (p:Nat→Bool):Nat→Bool
 | 0=>true
 | n + 1=>wX p n && p n
def wi (p:Nat→Bool):Nat→Bool
 | 0=>false
 | n + 1=>wi p n || p n
theorem yK {p:Nat→Bool}:∀ {n:Nat},wX p n=true↔∀ i,i < n→p i=true
 | 0=>by simp [wX]
 | n + 1=>by
   simp only [wX,zq,yK]
   constructor
   · rintro ⟨h1,h2⟩ i hi
     by_cases e:i=n
     · subst e;exact h2
     · exact h1 i (by omega)
   · intro h
     exact ⟨fun i hi=>h i (by omega),h n (by omega)⟩
theorem Ml {p q:Nat→Bool} {n:Nat} (h:∀ i,i < n→p i=q i):wX p n=wX q n:=by
 rw [xe,yK,yK]
 constructor
 · intro h1 i hi;rw [← h i hi];exact h1 i hi
 · intro h1 i hi;rw [h i hi];exact h1 i hi
theorem wq {p:Nat→Bool}:∀ {n:Nat},wi p n=true↔∃ i,i < n∧p i=true
 | 0=>by simp [wi]
 | n + 1=>by
   simp only [wi,xm,wq]
   constructor
   · rintro (⟨i,h1,h2⟩ | h)
     · exact ⟨i,by omega,h2⟩
     · exact ⟨n,by omega,h⟩
   · rintro ⟨i,h1,h2⟩
     by_cases e:i=n
     · subst e;exact .inr h2
     · exact .inl ⟨i,by omega,h2⟩
theorem U5 {p:Nat→Bool} {n:Nat}:wi p n=!wX (fun i=>!p i) n:=by
 induction n with
 | zero=>rfl
 | succ n ih=>simp [wi,wX,ih,Bool.not_and]
theorem L1 {p q:Nat→Bool} {n:Nat} (h:∀ i,i < n→p i=q i):wi p n=wi q n:=by
 rw [U5,U5,Ml];intro i hi;rw [h i hi]
theorem wR {β:Type} {L:Nat→Int→Option β} {n:Nat} {p:Nat→Bool} {bad fin:Option β} (hs:∀ k i,i < n→L (k + 1) (i:Int)=bif p i then L k ((i + 1:Nat):Int) else bad) (he:∀ k,L (k + 1) (n:Int)=fin) :
    ∀ k,n < k→L k 0=bif wX p n then fin else bad:=by
 have key:∀ d k i,i + d=n→d < k→(∀ j,j < i→p j=true)→L k (i:Int)=bif wX p n then fin else bad:=by
  intro d
  induction d with
  | zero=>
    intro k i hi hk hp
    obtain ⟨k,rfl⟩:∃ k',k=k' + 1:=⟨k - 1,by omega⟩
    obtain rfl:i=n:=by omega
    rw [he,show wX p i=true from yK.2 hp];rfl
  | succ d ih=>
    intro k i hi hk hp
    obtain ⟨k,rfl⟩:∃ k',k=k' + 1:=⟨k - 1,by omega⟩
    rw [hs k i (by omega)]
    cases hpi:p i with
    | true=>
      simp only [zn]
      refine ih k (i + 1) (by omega) (by omega) ?_
      intro j hj
      by_cases e:j=i
      · subst e;exact hpi
      · exact hp j (by omega)
    | false=>
      have:wX p n=false:=by
       rw [Bool.eq_false_iff];intro h
       have:=yK.1 h i (by omega);rw [hpi] at this;cases this
      rw [this];rfl
 intro k hk
 exact key n k 0 (by omega) hk (by simp)
theorem zfV {β σ:Type} {L:Nat→Int→σ→Option β} {n:Nat} (I:Nat→σ→Prop) {fin:σ→Option β} (st:Nat→σ→σ)
    (hs:∀ k i s,i < n→I i s→L (k + 1) (i:Int) s=L k ((i + 1:Nat):Int) (st i s)) (hi:∀ i s,i < n→I i s→I (i + 1) (st i s)) (he:∀ k s,I n s→L (k + 1) (n:Int) s=fin s) :
    ∀ k s0,n < k→I 0 s0→∃ s,I n s∧L k 0 s0=fin s∧s=(List.range n).foldl (fun s i=>st i s) s0:=by
 have key:∀ d k i s,i + d=n→d < k→I i s→∃ s',I n s'∧L k (i:Int) s=fin s'∧s'=(List.range' i d).foldl (fun s i=>st i s) s:=by
  intro d
  induction d with
  | zero=>
    intro k i s hi hk hI
    obtain ⟨k,rfl⟩:∃ k',k=k' + 1:=⟨k - 1,by omega⟩
    obtain rfl:i=n:=by omega
    exact ⟨s,hI,he k s hI,rfl⟩
  | succ d ih=>
    intro k i s hd hk hI
    obtain ⟨k,rfl⟩:∃ k',k=k' + 1:=⟨k - 1,by omega⟩
    rw [hs k i s (by omega) hI]
    obtain ⟨s',h1,h2,h3⟩:=ih k (i + 1) (st i s) (by omega) (by omega) (hi i s (by omega) hI)
    exact ⟨s',h1,h2,by rw [h3,List.range'_succ];rfl⟩
 intro k s0 hk hI
 obtain ⟨s',h1,h2,h3⟩:=key n k 0 s0 (by omega) hk hI
 exact ⟨s',h1,h2,by rw [h3,List.range_eq_range']⟩
theorem wQ {β σ:Type} {L:Nat→Int→σ→Option β} {n:Nat} (I:Nat→σ→Prop) {r:Option β}
    (hs:∀ k i s,i < n→I i s→∃ s',I (i + 1) s'∧L (k + 1) (i:Int) s=L k ((i + 1:Nat):Int) s') (he:∀ k s,I n s→L (k + 1) (n:Int) s=r) :
    ∀ k s0,n < k→I 0 s0→L k 0 s0=r:=by
 have key:∀ d k i s,i + d=n→d < k→I i s→L k (i:Int) s=r:=by
  intro d
  induction d with
  | zero=>
    intro k i s hi hk hI
    obtain ⟨k,rfl⟩:∃ k',k=k' + 1:=⟨k - 1,by omega⟩
    obtain rfl:i=n:=by omega
    exact he k s hI
  | succ d ih=>
    intro k i s hd hk hI
    obtain ⟨k,rfl⟩:∃ k',k=k' + 1:=⟨k - 1,by omega⟩
    obtain ⟨s',h1,h2⟩:=hs k i s (by omega) hI
    rw [h2]
    exact ih k (i + 1) s' (by omega) (by omega) h1
 intro k s0 hk hI
 exact key n k 0 s0 (by omega) hk hI
theorem Qo {α:Type} {n:Nat} {x:α} (h:n≤1099511627776):mkN (n:Int) x=some (List.replicate n x):=by
 unfold mkN
 rw [if_pos ⟨by omega,by have:((2:Int) ^ 40)=1099511627776:=by decide
                         omega⟩]
 simp
theorem zeL {β:Type} {L:Nat→Int→Option β} {n:Nat} {r:Option β} (hs:∀ k i,i < n→L (k + 1) (i:Int)=L k ((i + 1:Nat):Int)) (he:∀ k,L (k + 1) (n:Int)=r):∀ k,n < k→L k 0=r:=by
 intro k hk
 exact wQ (L:=fun k i (_:Unit)=>L k i) (fun _ _=>True) (fun k i s hi _=>⟨(),trivial,hs k i hi⟩) (fun k s _=>he k) k () hk trivial
theorem xr {α:Type} {l:List α} {i:Nat} {d:α} (h:i < l.length):l.getD i d∈l:=by
 rw [zW,yD h];exact Yp h
theorem zbw {α:Type} {xs:List α} {y:α} (h:xs.length < 1099511627776):vW xs [y]=some (xs++[y]):=by
 unfold vW
 rw [if_pos]
 have:(2:Nat) ^ 40=1099511627776:=by decide
 simp;omega
theorem Lr {β σ:Type} {L:Nat→Int→σ→Option β} {n:Nat} (I:Nat→σ→Prop) {fin:σ→Option β}
    (hs:∀ k i s,i < n→I i s→∃ s',I (i + 1) s'∧L (k + 1) (i:Int) s=L k ((i + 1:Nat):Int) s') (he:∀ k s,I n s→L (k + 1) (n:Int) s=fin s) :
    ∀ k s0,n < k→I 0 s0→∃ s,I n s∧L k 0 s0=fin s:=by
 have key:∀ d k i s,i + d=n→d < k→I i s→∃ s',I n s'∧L k (i:Int) s=fin s':=by
  intro d
  induction d with
  | zero=>
    intro k i s hi hk hI
    obtain ⟨k,rfl⟩:∃ k',k=k' + 1:=⟨k - 1,by omega⟩
    obtain rfl:i=n:=by omega
    exact ⟨s,hI,he k s hI⟩
  | succ d ih=>
    intro k i s hd hk hI
    obtain ⟨k,rfl⟩:∃ k',k=k' + 1:=⟨k - 1,by omega⟩
    obtain ⟨s',h1,h2⟩:=hs k i s (by omega) hI
    rw [h2]
    exact ih k (i + 1) s' (by omega) (by omega) h1
 intro k s0 hk hI
 exact key n k 0 s0 (by omega) hk hI
theorem w1:w64 1=1:=by decide
theorem w2:w64 2=2:=by decide
theorem Lt {n:Nat} (h:n < 9223372036854775808):w64 (n:Int)=n:=wr (by omega) (by omega)
theorem KF (n:Nat) (h:n < 9223372036854775808):(BitVec.ofInt (IntKind.bits .i64) (n:Int)).toNat=n:=by
 show (BitVec.ofInt 64 (n:Int)).toNat=n
 rw [BitVec.ofInt_natCast,BitVec.toNat_ofNat]
 exact Nat.mod_eq_of_lt (by omega)
theorem Xb {a b:Nat} (ha:a < 9223372036854775808) (hb:b < 9223372036854775808):ior .i64 a b=((a ||| b:Nat):Int):=by
 unfold ior
 rw [BitVec.toNat_or,KF a ha,KF b hb]
 exact Lt (Nat.or_lt_two_pow (n:=63) ha hb)
theorem ziN {a b:Nat} (ha:a < 9223372036854775808) (hb:b < 9223372036854775808):yU .i64 a b=((a &&& b:Nat):Int):=by
 unfold yU
 rw [BitVec.toNat_and,KF a ha,KF b hb]
 exact Lt (Nat.and_lt_two_pow (n:=63) a hb)
theorem Lc {a b:Nat} (ha:a < 9223372036854775808) (hb:b < 9223372036854775808):∃ c:Nat,Xa .i64 a b=(c:Int)∧c≤a∧∀ j,c.testBit j=(a.testBit j && !b.testBit j):=by
 refine ⟨a &&& (18446744073709551615 - b),?_,Nat.and_le_left,?_⟩
 · unfold Xa
   rw [BitVec.toNat_and,BitVec.toNat_not,KF a ha,KF b hb]
   have e:(2:Nat) ^ (IntKind.bits .i64) - 1 - b=18446744073709551615 - b:=rfl
   rw [e]
   exact Lt (Nat.lt_of_le_of_lt Nat.and_le_left ha)
 · intro j
   rw [Nat.testBit_and]
   have e:18446744073709551615 - b=2 ^ 64 - (b + 1):=by
    have:(2:Nat) ^ 64=18446744073709551616:=by decide
    omega
   rw [e,Nat.testBit_two_pow_sub_succ (by have:(2:Nat) ^ 64=18446744073709551616:=by decide
                                          omega)]
   by_cases hj:j < 64
   · simp [hj]
   · have:a.testBit j=false:=Nat.testBit_lt_two_pow (uY ha (Zy (n:=2) (by decide) (show 63≤j by omega)))
     simp [this]
theorem zi8 {a j:Nat} (hj:j≤62) (ha:a * 2 ^ j < 9223372036854775808):UE .i64 (a:Int) (j:Int)=some (((a * 2 ^ j:Nat)):Int):=by
 unfold UE
 rw [if_neg (by omega)]
 have e:(min (j:Int).toNat (IntKind.bits .i64))=j:=by
  simp only [xD]
  exact Nat.min_eq_left (by show j≤64;omega)
 rw [e]
 have:=Lt ha
 rw [show ((a:Int) * 2 ^ j)=((a * 2 ^ j:Nat):Int) by simp]
 rw [show IntKind.i64.wrap ((a * 2 ^ j:Nat):Int)=w64 ((a * 2 ^ j:Nat):Int) from rfl,this]
theorem YA {j:Nat} (hj:j≤62):UE .i64 1 (j:Int)=some ((2 ^ j:Nat):Int):=by
 have h:1 * 2 ^ j < 9223372036854775808:=by
  have:=Zy (n:=2) (by decide) hj
  have e:(2:Nat) ^ 62=4611686018427387904:=by decide
  omega
 have:=zi8 (a:=1) hj h
 simpa using this
theorem zdP {a j:Nat}:Jy .i64 (a:Int) (j:Int)=some ((a / 2 ^ (min j 64):Nat):Int):=by
 unfold Jy
 rw [if_neg (by omega)]
 simp only [xD]
 have:(IntKind.bits .i64)=64:=rfl
 rw [this]
 rw [Int.fdiv_eq_ediv_of_nonneg _ (by exact_mod_cast Nat.zero_le _)]
 simp
theorem ZO {j:Nat} (hj:j≤62):(2:Nat) ^ j < 9223372036854775808:=by
 have:=Zy (n:=2) (by decide) hj
 have e:(2:Nat) ^ 62=4611686018427387904:=by decide
 omega
def zcs (m:Nat) (p:Nat→Bool):Prop:=m < 9223372036854775808∧∀ j,m.testBit j=p j
theorem zdd {n:Nat} (hn:n≤62):zcs (2 ^ n - 1) (fun j=>decide (j < n)):=
 ⟨by have:=ZO hn;omega,fun j=>by rw [Nat.testBit_two_pow_sub_one]⟩
theorem WA:∀ (n:Nat) (l:List Int),(∀ j,j < n→(j:Int)∈l)→n≤l.length∧(l.length=n→∀ y∈l,0≤y∧y < n)
 | 0,l,_=>⟨Nat.zero_le _,fun h y hy=>by rw [List.length_eq_zero_iff.1 h] at hy;cases hy⟩
 | n + 1,l,h=>by
   have hn:=h n (by omega)
   have hp:=List.length_pos_of_mem hn
   have ih:=WA n (l.erase (n:Int)) (fun j hj=>(List.mem_erase_of_ne (by omega)).2 (h j (by omega)))
   rw [List.length_erase_of_mem hn] at ih
   refine ⟨by omega,fun hl y hy=>?_⟩
   by_cases e:y=n
   · subst e;omega
   · have:=ih.2 (by omega) y ((List.mem_erase_of_ne e).2 hy)
     omega
theorem KN:∀ (n:Nat) (l:List Int),l.Nodup→(∀ x∈l,0≤x∧x < n)→l.length≤n
 | 0,l,_,h=>by
   cases l with
   | nil=>simp
   | cons x l=>have:=h x (by simp);omega
 | n + 1,l,hn,h=>by
   have hs:∀ x∈l.erase (n:Int),0≤x∧x < n:=by
    intro x hx
    have h1:=(hn.mem_erase_iff).1 hx
    have:=h x h1.2
    omega
   have ih:=KN n (l.erase (n:Int)) (hn.erase _) hs
   by_cases hm:(n:Int)∈l
   · rw [List.length_erase_of_mem hm] at ih;omega
   · rw [List.erase_of_not_mem hm] at ih;omega
theorem zl8 {m j:Nat} (hm:m < 9223372036854775808) (hj:j≤62):∃ q:Int,Jy .i64 (m:Int) (j:Int)=some q∧(yU .i64 q 1 == 1)=m.testBit j∧(yU .i64 q 1 == 0)=!m.testBit j:=by
 refine ⟨_,zdP,?_⟩
 have e:min j 64=j:=by omega
 rw [e]
 have hq:m / 2 ^ j < 9223372036854775808:=Nat.lt_of_le_of_lt (Nat.div_le_self _ _) hm
 have:=ziN hq (b:=1) (by omega)
 rw [show ((1:Nat):Int)=1 from rfl] at this
 rw [this,Nat.and_one_is_mod]
 have hb:m.testBit j=decide (m / 2 ^ j % 2=1):=by
  rw [Nat.testBit_eq_decide_div_mod_eq]
 rw [hb]
 have h2:=Nat.mod_two_eq_zero_or_one (m / 2 ^ j)
 rcases h2 with h2 | h2 <;> simp [h2]
abbrev Gr:=Int×List (Int×Int)
theorem K2 {F:Nat} {n lo hi:Int}:YP F n lo hi=some (decide (lo≤n) && decide (n≤hi)):=by
 unfold YP
 by_cases h:n≥lo
 · simp [h]
 · have:¬ lo≤n:=h
   simp [this]
theorem QP {F:Nat} {n lo hi:Int}:Wb F n lo hi=some (decide (lo≤n) && decide (n≤hi)):=by
 unfold Wb
 by_cases h:n≥lo
 · simp [h]
 · have:¬ lo≤n:=h
   simp [this]
def bef (a b:Int×Int):Bool:=decide (a.1 < b.1) || (a.1 == b.1) && decide (a.2 < b.2)
theorem Uw {F:Nat} {a b:Int×Int}:uS F a b=some (bef a b):=by
 unfold uS bef
 by_cases h:a.1 < b.1
 · simp [h]
 · cases e:(a.1 == b.1) <;> simp [h]
theorem znC {F:Nat} {x y:Int}:wP F x y=some (if x < y then -1 else if x > y then 1 else 0):=by
 unfold wP vJ
 by_cases h:x < y
 · simp [h]
 · by_cases h2:y < x <;> simp [h,h2]
theorem zjW {F:Nat} {a b:Int×Int} (hF:3≤F):∃ r,w4 F [a.1,a.2] [b.1,b.2]=some r∧(decide (r≥0)=!bef a b):=by
 obtain ⟨k,rfl⟩:∃ k,F=k + 3:=⟨F - 3,by omega⟩
 obtain ⟨a1,a2⟩:=a
 obtain ⟨b1,b2⟩:=b
 unfold w4
 simp only [vw,znC,bef]
 by_cases h1:a1 < b1
 · refine ⟨-1,?_,?_⟩ <;> simp [idx,h1]
 · by_cases h2:b1 < a1
   · have e:¬ a1=b1:=by omega
     refine ⟨1,?_,?_⟩
     · simp [idx,h1,h2]
     · simp [h1,e]
   · obtain rfl:a1=b1:=by omega
     by_cases h3:a2 < b2
     · refine ⟨-1,?_,?_⟩ <;> simp [idx,h3,w1]
     · by_cases h4:b2 < a2
       · refine ⟨1,?_,?_⟩ <;> simp [idx,h3,h4,w1]
       · obtain rfl:a2=b2:=by omega
         refine ⟨0,?_,?_⟩ <;> simp [idx,w1,w2]
def okE (n:Int) (es:List (Int×Int)) (i:Nat):Bool:=
 decide (0≤(es.getD i (0,0)).1) && decide ((es.getD i (0,0)).1 < (es.getD i (0,0)).2) && decide ((es.getD i (0,0)).2 < n) && (i == 0 || bef (es.getD (i - 1) (0,0)) (es.getD i (0,0)))
def xl (g:Gr):Bool:=decide (0≤g.1) && decide (g.1≤8) && wX (okE g.1 g.2) g.2.length
theorem Yy {F:Nat} {g:Gr} (hF:g.2.length < F) (h3:3≤F) (hl:Sm g.2.length):wW F g=some (xl g):=by
 unfold wW
 rw [K2,zc]
 unfold xl
 by_cases h:0≤g.1∧g.1≤8
 · simp only [h.1,h.2,decide_true,wK,yQ,zj,yg]
   rw [wR (L:=fun k i=>y2 F g k i) (n:=g.2.length) (p:=okE g.1 g.2) (bad:=some false) (fin:=some true) ?_ ?_ F hF]
   · cases wX (okE g.1 g.2) g.2.length <;> rfl
   · intro k i hi
     simp only [y2,vB]
     rw [z8 (d:=(0,0)) hi,yh hi hl]
     have hlt:decide ((i:Int) < g.2.length)=true:=by simp [hi]
     simp only [hlt,zn,zc,okE]
     generalize g.2.getD i (0,0)=e
     by_cases h1:e.1 < 0
     · have:¬ 0≤e.1:=by omega
       simp [h1,this]
     · by_cases h2:e.1≥e.2
       · have:¬ e.1 < e.2:=by omega
         simp [h1,h2,this]
       · by_cases h4:e.2≥g.1
         · have:¬ e.2 < g.1:=by omega
           simp [h1,h2,h4,this]
         · have a1:0≤e.1:=by omega
           have a2:e.1 < e.2:=by omega
           have a3:e.2 < g.1:=by omega
           simp only [h1,h2,h4,a1,a2,a3,decide_true,decide_false,zj,wK,yg]
           by_cases h5:i=0
           · subst h5;simp
           · have h6:decide ((i:Int) > 0)=true:=by simp;omega
             have h7:(i == 0)=false:=by simpa using h5
             rw [h6,zn,JR (by omega) hi hl,z8 (d:=(0,0)) (by omega),h7]
             obtain ⟨r,hr,hr2⟩:=zjW (F:=F) (a:=g.2.getD (i - 1) (0,0)) (b:=e) h3
             simp only [zc,hr,hr2,Bool.false_or]
             cases bef (g.2.getD (i - 1) (0,0)) e <;> rfl
   · intro k;simp [y2]
 · have:(decide (0≤g.1) && decide (g.1≤8))=false:=by
    rw [Bool.eq_false_iff];intro h';apply h;simpa using h'
   simp [this]
theorem WG {F:Nat} {g:Gr} (hF:g.2.length < F) (hl:Sm g.2.length):uG F g=some (xl g):=by
 unfold uG
 let p:Nat→Bool:=fun i=>decide (0≤(g.2.getD i (0,0)).1) && decide ((g.2.getD i (0,0)).1≤w64 (g.1 - 1)) && (decide (0≤(g.2.getD i (0,0)).2) && decide ((g.2.getD i (0,0)).2≤w64 (g.1 - 1))) && decide ((g.2.getD i (0,0)).1 < (g.2.getD i (0,0)).2) && (i == 0 || bef (g.2.getD (i - 1) (0,0)) (g.2.getD i (0,0)))
 rw [wR (L:=fun k i=>xf F g k i) (n:=g.2.length) (p:=p) (bad:=some false) (fin:=some (decide (0≤g.1) && decide (g.1≤8))) ?_ ?_ F hF]
 · unfold xl
   by_cases h:0≤g.1∧g.1≤8
   · have hw:w64 (g.1 - 1)=g.1 - 1:=wr (by omega) (by omega)
     rw [Ml (q:=okE g.1 g.2)]
     · cases wX (okE g.1 g.2) g.2.length <;> simp [h.1,h.2]
     · intro i _
       simp only [p,okE,hw]
       generalize g.2.getD i (0,0)=e
       generalize (i == 0 || bef (g.2.getD (i - 1) (0,0)) e)=b
       rw [xe]
       simp only [zq,z9]
       constructor
       · rintro ⟨⟨⟨⟨a1,a2⟩,a3,a4⟩,a5⟩,a6⟩;exact ⟨⟨⟨a1,a5⟩,by omega⟩,a6⟩
       · rintro ⟨⟨⟨a1,a5⟩,a4⟩,a6⟩;exact ⟨⟨⟨⟨a1,by omega⟩,by omega,by omega⟩,a5⟩,a6⟩
   · have:(decide (0≤g.1) && decide (g.1≤8))=false:=by
      rw [Bool.eq_false_iff];intro h';apply h;simpa using h'
     rw [this];cases wX p g.2.length <;> rfl
 · intro k i hi
   simp only [xf,vY,QP,zc]
   rw [z8 (d:=(0,0)) hi,yh hi hl]
   have hlt:decide ((i:Int) < g.2.length)=true:=by simp [hi]
   simp only [hlt,zn,zc,p]
   generalize g.2.getD i (0,0)=e
   generalize (decide (0≤e.1) && decide (e.1≤w64 (g.1 - 1)))=b1
   generalize (decide (0≤e.2) && decide (e.2≤w64 (g.1 - 1)))=b2
   cases b1
   · rfl
   cases b2
   · rfl
   by_cases h2:e.1≥e.2
   · have:¬ e.1 < e.2:=by omega
     simp [h2,this]
   · have:e.1 < e.2:=by omega
     simp only [yQ,zj,h2,this,decide_true,decide_false,wK,yg]
     by_cases h5:i=0
     · subst h5;simp
     · have h6:decide ((i:Int) > 0)=true:=by simp;omega
       have h7:(i == 0)=false:=by simpa using h5
       rw [h6,zn,JR (by omega) hi hl,z8 (d:=(0,0)) (by omega),h7]
       simp only [zc,Uw,Bool.false_or]
       cases bef (g.2.getD (i - 1) (0,0)) e <;> rfl
 · intro k;simp [xf,QP]
theorem yx {g:Gr} (h:xl g=true):0≤g.1∧g.1≤8:=by
 unfold xl at h
 simp only [zq,z9] at h
 exact h.1
theorem Kf {F:Nat} {l:List Int} {n:Int} (hF:l.length < F) (hl:Sm l.length):uB F l n=some (decide (n∈l)):=by
 unfold uB
 rw [wR (L:=fun k i=>ZP F l n k i) (n:=l.length) (p:=fun i=>!(l.getD i 0 == n)) (bad:=some true) (fin:=some false) ?_ ?_ F hF]
 · by_cases h:n∈l
   · have:wX (fun i=>!(l.getD i 0 == n)) l.length=false:=by
      rw [Bool.eq_false_iff];intro h'
      obtain ⟨i,hi,e⟩:=uP.1 h
      have:=yK.1 h' i hi
      simp [zW,hi,e] at this
     rw [this];simp [h]
   · have:wX (fun i=>!(l.getD i 0 == n)) l.length=true:=by
      rw [yK];intro i hi
      simp only [zW,yD hi,yI,xn,beq_eq_false_iff_ne]
      intro e;exact h (e ▸ Yp hi)
     rw [this];simp [h]
 · intro k i hi
   simp only [ZP]
   rw [z8 (d:=0) hi,yh hi hl]
   have hlt:decide ((i:Int) < l.length)=true:=by simp [hi]
   simp only [hlt,zn,zc]
   cases (l.getD i 0 == n) <;> rfl
 · intro k;simp [ZP]
def wl (n:Int) (l:List Int):Bool:=decide ((l.length:Int)=n) && wX (fun j=>decide ((j:Int)∈l)) n.toNat
theorem Ku {F:Nat} {g:Gr} {l:List Int} (h0:0≤g.1) (h8:g.1≤8) (hF:l.length < F) (h9:9≤F) (hl:Sm l.length):YN F g l=some (wl g.1 l):=by
 unfold YN
 obtain ⟨n,hn⟩:∃ n:Nat,g.1=n:=⟨g.1.toNat,by omega⟩
 rw [wR (L:=fun k i=>uN F l g k i) (n:=n) (p:=fun j=>decide ((j:Int)∈l)) (bad:=some false) (fin:=some ((l.length:Int) == n)) ?_ ?_ F (by omega)]
 · unfold wl
   rw [hn]
   simp only [xD]
   cases wX (fun j=>decide ((j:Int)∈l)) n <;> simp
   rfl
 · intro k i hi
   simp only [uN,Kf hF hl,hn]
   rw [yh hi (by unfold Sm;omega)]
   have hlt:decide ((i:Int) < (n:Int))=true:=by simp [hi]
   simp only [hlt,zn,zc]
   cases decide ((i:Int)∈l) <;> rfl
 · intro k;simp [uN,hn]
theorem zav {F:Nat} {l:List Int} {lo hi:Int} (hF:l.length < F) (hl:Sm l.length):vp F l lo hi=some (l.all fun x=>decide (lo≤x) && decide (x≤hi)):=by
 unfold vp
 rw [wR (L:=fun k i=>xH F lo hi l k i) (n:=l.length) (p:=fun i=>decide (lo≤l.getD i 0) && decide (l.getD i 0≤hi)) (bad:=some false) (fin:=some true) ?_ ?_ F hF]
 · have:wX (fun i=>decide (lo≤l.getD i 0) && decide (l.getD i 0≤hi)) l.length=l.all fun x=>decide (lo≤x) && decide (x≤hi):=by
    rw [xe,yK,yr]
    constructor
    · intro h x hx
      obtain ⟨i,hi,rfl⟩:=uP.1 hx
      have:=h i hi
      simpa [zW,hi] using this
    · intro h i hi
      simpa [zW,hi] using h l[i] (Yp hi)
   rw [this];cases (l.all fun x=>decide (lo≤x) && decide (x≤hi)) <;> rfl
 · intro k i hi
   simp only [xH,K2]
   rw [z8 (d:=0) hi,yh hi hl]
   have hlt:decide ((i:Int) < l.length)=true:=by simp [hi]
   simp only [hlt,zn,zc]
   cases (decide (lo≤l.getD i 0) && decide (l.getD i 0≤_)) <;> rfl
 · intro k;simp [xH]
theorem zfS {F:Nat} {l:List Int} (hF:l.length < F) (hl:Sm l.length) (h:∀ x∈l,0≤x∧x≤62):∃ m:Nat,XB F l=some (m:Int)∧zcs m (fun j=>decide ((j:Int)∈l)):=by
 unfold XB
 have key:∃ s:Int,(∃ m:Nat,s=(m:Int)∧m < 9223372036854775808∧∀ j,m.testBit j=decide ((j:Int)∈l.take l.length))∧ub F l F 0 0=some s:=by
  refine Exists.imp (fun s h=>⟨h.1,h.2.1⟩) (zfV (L:=fun k i s=>ub F l k s i) (n:=l.length) (fun i s=>∃ m:Nat,s=(m:Int)∧m < 9223372036854775808∧∀ j,m.testBit j=decide ((j:Int)∈l.take i)) (fin:=fun s=>some s)
   (fun i s=>ior .i64 s ((2 ^ (l.getD i 0).toNat:Nat):Int)) ?_ ?_ ?_ F 0 hF ⟨0,rfl,by omega,by simp⟩)
  · rintro k i s hi ⟨m,rfl,hm1,hm2⟩
    simp only [ub]
    rw [z8 (d:=0) hi,yh hi hl]
    have hlt:decide ((i:Int) < l.length)=true:=by simp [hi]
    simp only [hlt,zn,zc]
    have hx:=h (l.getD i 0) (by rw [zW,yD hi];exact Yp hi)
    obtain ⟨x,hx'⟩:∃ x:Nat,l.getD i 0=x:=⟨(l.getD i 0).toNat,by omega⟩
    rw [hx',YA (by omega)];simp
  · rintro i s hi ⟨m,rfl,hm1,hm2⟩
    have hx:=h (l.getD i 0) (by rw [zW,yD hi];exact Yp hi)
    obtain ⟨x,hx'⟩:∃ x:Nat,l.getD i 0=x:=⟨(l.getD i 0).toNat,by omega⟩
    rw [hx',xD,Xb hm1 (ZO (by omega))]
    refine ⟨_,rfl,Nat.or_lt_two_pow (n:=63) hm1 (ZO (by omega)),fun j=>?_⟩
    rw [ZX,hm2,YR,List.take_add_one,yD hi]
    have:l[i]=x:=by rw [← hx',zW,yD hi];rfl
    rw [xe]
    simp [this]
    constructor
    · rintro (h | h)
      · exact .inl h
      · exact .inr (by omega)
    · rintro (h | h)
      · exact .inl h
      · exact .inr (by omega)
  · rintro k s ⟨m,rfl,hm1,hm2⟩
    simp [ub]
 obtain ⟨s,⟨m,rfl,hm1,hm2⟩,h2⟩:=key
 exact ⟨m,h2,hm1,by simpa using hm2⟩
theorem Ms {F:Nat} {g:Gr} {l:List Int} (h0:0≤g.1) (h8:g.1≤8) (hF:l.length < F) (hl:Sm l.length):Zg F g l=some (wl g.1 l):=by
 unfold Zg wl
 obtain ⟨n,hn⟩:∃ n:Nat,g.1=n:=⟨g.1.toNat,by omega⟩
 have hw:w64 (g.1 - 1)=g.1 - 1:=wr (by omega) (by omega)
 rw [zav hF hl,hw,hn]
 by_cases e:l.length=n
 · have e':((l.length:Int) == (n:Int))=true:=by simp [e]
   simp only [e',zn,zc,xD]
   by_cases ha:(l.all fun x=>decide (0≤x) && decide (x≤(n:Int) - 1))=true
   · rw [ha,zn]
     have ha':∀ x∈l,0≤x∧x≤62:=by
      intro x hx;have:=yr.1 ha x hx;simp at this;omega
     obtain ⟨m,hm,hmask⟩:=zfS hF hl ha'
     rw [hm,zc,YA (by omega),zc]
     have hw2:w64 (((2 ^ n:Nat):Int) - 1)=((2 ^ n - 1:Nat):Int):=by
      have:=ZO (j:=n) (by omega)
      have:0 < 2 ^ n:=Zt n
      rw [wr (by omega) (by omega)];omega
     rw [hw2]
     congr 1
     rw [xe]
     have hall:=zdd (n:=n) (by omega)
     simp only [yH,zq,z9,yK]
     constructor
     · intro h
       have h':m=2 ^ n - 1:=by omega
       refine ⟨by omega,fun j hj=>?_⟩
       have:=hmask.2 j
       rw [h',hall.2] at this
       simpa [hj] using this.symm
     · rintro ⟨_,h⟩
       have:m=2 ^ n - 1:=by
        apply ZF
        intro j
        rw [hmask.2,hall.2]
        by_cases hj:j < n
        · simp [hj,h j hj]
        · simp only [hj,decide_false,decide_eq_false_iff_not]
          intro hm'
          have:=yr.1 ha _ hm'
          simp at this;omega
       rw [this]
   · rw [Bool.not_eq_true] at ha
     rw [ha,zj]
     congr 1
     symm
     rw [Bool.eq_false_iff];intro h
     simp only [zq,z9,yK] at h
     have:=(WA n l h.2).2 e
     have h2:(l.all fun x=>decide (0≤x) && decide (x≤(n:Int) - 1))=true:=by
      rw [yr];intro x hx;have:=this x hx;simp;omega
     rw [ha] at h2;cases h2
 · have e':((l.length:Int) == (n:Int))=false:=by simp;omega
   have e2:decide ((l.length:Int)=(n:Int))=false:=by simp;omega
   rw [e',e2];simp
theorem zkc {F:Nat} {a b:Int}:XW F a b=some (max a b):=by
 unfold XW
 by_cases h:a > b
 · simp [h];omega
 · simp [h];omega
theorem znx {n:Int} {es:List (Int×Int)} (h:wX (okE n es) es.length=true) {i:Nat} (hi:i < es.length):0≤(es.getD i (0,0)).1∧(es.getD i (0,0)).1 < (es.getD i (0,0)).2∧(es.getD i (0,0)).2 < n:=by
 have:=yK.1 h i hi
 unfold okE at this
 simp only [zq,z9] at this
 exact ⟨this.1.1.1,this.1.1.2,this.1.2⟩
theorem KH {g:Gr} (h:xl g=true) {i:Nat} (hi:i < g.2.length):0≤(g.2.getD i (0,0)).1∧(g.2.getD i (0,0)).1 < (g.2.getD i (0,0)).2∧(g.2.getD i (0,0)).2 < g.1:=by
 unfold xl at h
 simp only [zq] at h
 exact znx h.2 hi
theorem WD {n:Int} {l:List Int} (h:wl n l=true) {x:Int} (h0:0≤x) (hx:x < n):x∈l:=by
 unfold wl at h
 simp only [zq,yK,z9] at h
 have:=h.2 x.toNat (by omega)
 rwa [Int.toNat_of_nonneg h0] at this
theorem vf {n:Int} {l:List Int} (h:wl n l=true):(l.length:Int)=n:=by
 unfold wl at h
 simp only [zq,z9] at h
 exact h.1
theorem Kj {α:Type} {xs:List α} {i j:Nat} {a d:α} (hi:i < xs.length):(xs.set i a).getD j d=if i=j then a else xs.getD j d:=by
 rw [zW,List.getElem?_set,zW]
 split
 · rename_i e;subst e;simp [hi]
 · rfl
def par (ps:List Int) (x:Int):Int:=ps.getD x.toNat (-1)
def zkC (ps:List Int):Nat→Int→List Int
 | 0,_=>[]
 | d + 1,x=>if 0≤par ps x then par ps x :: zkC ps d (par ps x) else []
def zuS (n:Nat) (ps:List Int) (x:Int):Bool:=decide ((zkC ps (n + 1) x).length < n)
def mkm (p:Nat→Bool):Nat→Nat
 | 0=>0
 | n + 1=>mkm p n ||| (if p n then 2 ^ n else 0)
theorem xA {p:Nat→Bool}:∀ (n j:Nat),(mkm p n).testBit j=(decide (j < n) && p j)
 | 0,j=>by simp [mkm]
 | n + 1,j=>by
   rw [mkm,ZX,xA n j]
   by_cases hp:p n=true
   · rw [if_pos hp,YR]
     by_cases e:n=j
     · subst e;simp [hp]
     · have h1:decide (n=j)=false:=by simpa using e
       have h2:decide (j < n + 1)=decide (j < n):=by
        rw [xe];simp;omega
       rw [h1,h2];simp
   · rw [if_neg hp,Yo]
     rw [Bool.not_eq_true] at hp
     by_cases e:n=j
     · subst e;simp [hp]
     · have h2:decide (j < n + 1)=decide (j < n):=by
        rw [xe];simp;omega
       rw [h2];simp
theorem Jq {p:Nat→Bool} {n:Nat}:mkm p n < 2 ^ n:=by
 apply Nat.lt_pow_two_of_testBit
 intro j hj
 rw [xA]
 have:decide (j < n)=false:=by simp;omega
 rw [this];rfl
theorem XP {p:Nat→Bool} {n:Nat} (h:n≤62):mkm p n < 9223372036854775808:=Nat.lt_trans Jq (ZO h)
theorem Wq {p q:Nat→Bool} {n:Nat} (h:∀ j,j < n→p j=q j):mkm p n=mkm q n:=by
 apply ZF;intro j
 rw [xA,xA]
 by_cases hj:j < n
 · rw [h j hj]
 · simp [hj]
theorem KR {p:Nat→Bool} {n m:Nat} (hm:∀ j,m.testBit j=(decide (j < n) && p j)):m=mkm p n:=by
 apply ZF;intro j;rw [hm,xA]
def uT (g:Gr) (a b:Nat) (i:Nat):Bool:=((g.2.getD i (0,0)).1 == (a:Int) && (g.2.getD i (0,0)).2 == (b:Int)) || ((g.2.getD i (0,0)).1 == (b:Int) && (g.2.getD i (0,0)).2 == (a:Int))
def adj (g:Gr) (a b:Nat):Bool:=wi (uT g a b) g.2.length
theorem zc9 {g:Gr} {a b i:Nat}:uT g a b i=uT g b a i:=by unfold uT;rw [Bool.or_comm]
theorem zgO {g:Gr} {a b:Nat}:adj g a b=adj g b a:=L1 fun _ _=>zc9
theorem JC {g:Gr} (hg:xl g=true) {a b:Nat} (h:adj g a b=true):(a:Int) < g.1∧(b:Int) < g.1∧a≠b:=by
 unfold adj at h
 obtain ⟨i,hi,h⟩:=wq.1 h
 obtain ⟨e1,e2,e3⟩:=KH hg hi
 unfold uT at h
 simp only [xm,zq,yH] at h
 omega
theorem QL {F:Nat} {g:Gr} {a b:Nat} (hF:g.2.length < F) (hs:Sm g.2.length):uV F g (a:Int) (b:Int)=some (adj g a b):=by
 unfold uV
 rw [wR (L:=fun k i=>xh F (a:Int) (b:Int) g k i) (n:=g.2.length) (p:=fun i=>!uT g a b i) (bad:=some true) (fin:=some false) ?_ ?_ F hF]
 · unfold adj;rw [U5];cases wX (fun i=>!uT g a b i) g.2.length <;> rfl
 · intro k i hi
   simp only [xh,vX]
   rw [z8 (d:=(0,0)) hi,yh hi hs]
   have hlt:decide ((i:Int) < g.2.length)=true:=by simp [hi]
   rw [hlt,zn,zc]
   unfold uT
   generalize g.2.getD i (0,0)=e
   generalize (e.1 == (a:Int))=b1
   generalize (e.2 == (b:Int))=b2
   generalize (e.1 == (b:Int))=b3
   generalize (e.2 == (a:Int))=b4
   cases b1 <;> cases b2 <;> cases b3 <;> cases b4 <;> rfl
 · intro k;simp [xh]
def vc (g:Gr):List Int:=(List.range g.1.toNat).map fun x=>((mkm (adj g x) g.1.toNat:Nat):Int)
theorem UW {g:Gr}:(vc g).length=g.1.toNat:=by simp [vc]
theorem NS {g:Gr} {x:Nat} (h:x < g.1.toNat):(vc g).getD x 0=((mkm (adj g x) g.1.toNat:Nat):Int):=by
 simp [vc,zW,h]
theorem MA {F:Nat} {g:Gr} (hg:xl g=true) (hF:g.2.length < F) (hs:Sm g.2.length):YD F g=some ⟨vc g⟩:=by
 have h8:=yx hg
 obtain ⟨n,hn⟩:∃ n:Nat,g.1=n:=⟨g.1.toNat,by omega⟩
 unfold YD
 rw [hn,Qo (by omega),zc]
 refine wQ (L:=fun k i s=>ZN F g k s i) (n:=g.2.length) (fun i w=>w.length=n∧∀ x,x < n→∃ m:Nat,w.getD x 0=(m:Int)∧zcs m (fun j=>wi (uT g x j) i)) ?_ ?_ F _ hF ?_
 · intro k i w hi ⟨hl,hw⟩
   obtain ⟨e1,e2,e3⟩:=KH hg hi
   simp only [ZN]
   rw [z8 (d:=(0,0)) hi,yh hi hs]
   have hlt:decide ((i:Int) < g.2.length)=true:=by simp [hi]
   rw [hlt,zn,zc]
   obtain ⟨a,ha⟩:∃ a:Nat,(g.2.getD i (0,0)).1=a:=⟨(g.2.getD i (0,0)).1.toNat,by omega⟩
   obtain ⟨b,hb⟩:∃ b:Nat,(g.2.getD i (0,0)).2=b:=⟨(g.2.getD i (0,0)).2.toNat,by omega⟩
   have hj:∀ x j,uT g x j i=((x == a && j == b) || (x == b && j == a)):=by
    intro x j
    unfold uT
    rw [ha,hb,xe]
    simp
    omega
   rw [ha] at e1 e2 ⊢
   rw [hb] at e2 e3 ⊢
   obtain ⟨ma,hma,hma2⟩:=hw a (by omega)
   obtain ⟨mb,hmb,hmb2⟩:=hw b (by omega)
   have ia:idx w (a:Int)=some (ma:Int):=by rw [z8 (d:=0) (by omega),hma]
   rw [ia,zc,YA (by omega),zc,zc,Xb hma2.1 (ZO (by omega)),xD]
   have ib:idx (w.set a ((ma ||| 2 ^ b:Nat):Int)) (b:Int)=some (mb:Int):=by
    rw [z8 (d:=0) (by simp;omega),Kj (by omega),if_neg (by omega),hmb]
   rw [ib,zc,YA (by omega),zc,zc,Xb hmb2.1 (ZO (by omega)),xD]
   refine ⟨_,⟨by simp [hl],?_⟩,rfl⟩
   intro x hx
   rw [Kj (by simp;omega),Kj (by omega)]
   by_cases exb:b=x
   · subst exb
     rw [if_pos rfl]
     refine ⟨_,rfl,Nat.or_lt_two_pow (n:=63) hmb2.1 (ZO (by omega)),fun j=>?_⟩
     rw [ZX,hmb2.2,YR]
     show (wi (uT g b j) i || decide (a=j))=(wi (uT g b j) i || uT g b j i)
     rw [hj]
     congr 1
     rw [xe];simp;omega
   · rw [if_neg exb]
     by_cases exa:a=x
     · subst exa
       rw [if_pos rfl]
       refine ⟨_,rfl,Nat.or_lt_two_pow (n:=63) hma2.1 (ZO (by omega)),fun j=>?_⟩
       rw [ZX,hma2.2,YR]
       show (wi (uT g a j) i || decide (b=j))=(wi (uT g a j) i || uT g a j i)
       rw [hj]
       congr 1
       rw [xe];simp;omega
     · rw [if_neg exa]
       obtain ⟨m,h1,h2⟩:=hw x hx
       refine ⟨m,h1,h2.1,fun j=>?_⟩
       rw [h2.2]
       show wi (uT g x j) i=(wi (uT g x j) i || uT g x j i)
       have:uT g x j i=false:=by
        rw [hj,Bool.eq_false_iff];intro h;simp at h;omega
       rw [this,wt]
 · intro k w ⟨hl,hw⟩
   simp only [ZN]
   have hlt:decide ((g.2.length:Int) < g.2.length)=false:=by simp
   rw [hlt,zj]
   have:w=vc g:=by
    apply List.ext_getElem (by rw [hl,UW,hn];simp)
    intro x h1 h2
    obtain ⟨m,h3,h4⟩:=hw x (by omega)
    have h5:=NS (g:=g) (x:=x) (by rw [UW] at h2;exact h2)
    rw [zW,yD h1] at h3
    rw [zW,yD h2] at h5
    simp at h3 h5
    rw [h3,h5]
    congr 1
    refine KR fun j=>?_
    rw [h4.2,hn,xD]
    by_cases hj:j < n
    · simp [hj,adj]
    · have:adj g x j=false:=by
       rw [Bool.eq_false_iff];intro h;have:=JC hg h;omega
      simp only [hj,decide_false,wv];exact this
   rw [this]
 · refine ⟨by simp,fun x hx=>⟨0,by simp [zW,hx],by omega,fun j=>by simp [wi]⟩⟩
def xI (p:Nat→Bool) (n:Nat):Nat:=(List.range n).countP p
theorem ZZ {p q:Nat→Bool} {n:Nat} (h:∀ j,j < n→p j=q j):xI p n=xI q n:=by
 unfold xI
 apply List.countP_congr
 intro x hx
 rw [h x (by simpa using hx)]
def zkf (m:Nat):Nat:=xI m.testBit 8
theorem zhQ:∀ m:Nat,m < 256→wZ 0 (Kd.mk (IntKind.u64.wrap (m:Int)):Kd .u64)=some (zkf m:Int):=by decide +kernel
theorem zi4 {F m:Nat} (h:m < 256):wZ F (Kd.mk (IntKind.u64.wrap (m:Int)):Kd .u64)=some (zkf m:Int):=zhQ m h
theorem zf5 {p:Nat→Bool} {n:Nat} (hn:n≤8):zkf (mkm p n)=xI p n:=by
 unfold zkf
 have h1:xI (mkm p n).testBit 8=xI (fun j=>decide (j < n) && p j) 8:=ZZ fun j _=>xA n j
 rw [h1]
 unfold xI
 have:List.range 8=List.range n++(List.range (8 - n)).map (n + ·):=by
  have:=@List.range_add n (8 - n)
  rwa [show n + (8 - n)=8 by omega] at this
 rw [this,List.countP_append]
 have h2:((List.range (8 - n)).map (n + ·)).countP (fun j=>decide (j < n) && p j)=0:=by
  rw [List.countP_eq_zero]
  intro x hx
  simp at hx
  obtain ⟨y,_,rfl⟩:=hx
  have:¬ n + y < n:=by omega
  simp only [this,decide_false,wv,ya,not_false_eq_true]
 rw [h2,Nat.add_zero]
 apply List.countP_congr
 intro x hx
 simp at hx
 simp [hx]
theorem zjc {p:Nat→Bool} {n:Nat} (hn:n≤8):mkm p n < 256:=by
 have:=Jq (p:=p) (n:=n)
 have:=Zy (n:=2) (by decide) hn
 omega
def y5 (p:Nat→Bool) (n:Nat):List Int:=((List.range n).filter p).map fun (j:Nat)=>(j:Int)
theorem uu {p:Nat→Bool} {n:Nat}:(y5 p n).length=xI p n:=by
 simp [y5,xI,List.countP_eq_length_filter]
theorem MP {p:Nat→Bool} {n:Nat}:y5 p (n + 1)=y5 p n++(if p n then [(n:Int)] else []):=by
 simp only [y5,List.range_succ,List.filter_append,List.map_append]
 by_cases h:p n=true
 · simp [h]
 · rw [Bool.not_eq_true] at h;simp [h]
theorem xQ {p q:Nat→Bool} {n:Nat} (h:∀ j,j < n→p j=q j):y5 p n=y5 q n:=by
 unfold y5
 congr 1
 apply List.filter_congr
 intro x hx
 exact h x (by simpa using hx)
theorem Uv {p:Nat→Bool} {n:Nat}:xI p n≤n:=by
 have:=List.countP_le_length (p:=p) (l:=List.range n)
 unfold xI;simpa using this
theorem Nh:∀ (n:Nat) (l:List Int),l.Nodup→(∀ x∈l,0≤x∧x < n)→xI (fun j=>decide ((j:Int)∈l)) n=l.length
 | 0,l,_,h=>by
   cases l with
   | nil=>rfl
   | cons x l=>have:=h x (by simp);omega
 | n + 1,l,hn,h=>by
   have hs:∀ x∈l.erase (n:Int),0≤x∧x < n:=by
    intro x hx
    have h1:=(hn.mem_erase_iff).1 hx
    have:=h x h1.2
    omega
   have ih:=Nh n (l.erase (n:Int)) (hn.erase _) hs
   have hc:xI (fun j=>decide ((j:Int)∈l.erase (n:Int))) n=xI (fun j=>decide ((j:Int)∈l)) n:=by
    apply ZZ
    intro j hj
    rw [xe]
    simp only [z9]
    rw [List.mem_erase_of_ne (by omega)]
   rw [hc] at ih
   unfold xI at *
   rw [List.range_succ,List.countP_append,ih]
   by_cases hm:(n:Int)∈l
   · rw [List.length_erase_of_mem hm]
     have:=List.length_pos_of_mem hm
     simp [hm];omega
   · rw [List.erase_of_not_mem hm]
     simp [hm]
def Srt (l:List Int):Prop:=l.Pairwise (· < ·)
theorem zfd:∀ (a b:List Int),Srt a→Srt b→(∀ y,y∈a↔y∈b)→a=b
 | [],[],_,_,_=>rfl
 | [],y :: b,_,_,h=>by have:=(h y).2 (by simp);cases this
 | x :: a,[],_,_,h=>by have:=(h x).1 (by simp);cases this
 | x :: a,y :: b,ha,hb,h=>by
   unfold Srt at ha hb
   rw [List.pairwise_cons] at ha hb
   have e:x=y:=by
    have h1:=(h x).1 (by simp)
    have h2:=(h y).2 (by simp)
    rcases z4.1 h1 with e | h1
    · exact e
    · rcases z4.1 h2 with e | h2
      · exact e.symm
      · have:=ha.1 y h2;have:=hb.1 x h1;omega
   subst e
   congr 1
   refine zfd a b ha.2 hb.2 fun y=>?_
   have:=h y
   simp only [z4] at this
   constructor
   · intro hy
     rcases this.1 (.inr hy) with e | h'
     · have:=ha.1 y hy;omega
     · exact h'
   · intro hy
     rcases this.2 (.inr hy) with e | h'
     · have:=hb.1 y hy;omega
     · exact h'
theorem Xn {p:Nat→Bool} {n:Nat} {y:Int}:y∈y5 p n↔∃ j:Nat,y=j∧j < n∧p j=true:=by
 unfold y5
 simp only [xd,List.mem_filter,List.mem_range]
 constructor
 · rintro ⟨j,⟨h1,h2⟩,rfl⟩;exact ⟨j,rfl,h1,h2⟩
 · rintro ⟨j,rfl,h1,h2⟩;exact ⟨j,⟨h1,h2⟩,rfl⟩
theorem KD {p:Nat→Bool} {n:Nat}:Srt (y5 p n):=by
 unfold Srt y5
 rw [List.pairwise_map]
 have h1:(List.range n).Pairwise (· < ·):=List.pairwise_lt_range
 exact (List.Pairwise.filter _ h1).imp fun h=>by omega
theorem NZ {l:List Int} {p:Nat→Bool} {n:Nat} (h:Srt l) (hm:∀ y,y∈l↔∃ j:Nat,y=j∧j < n∧p j=true):l=y5 p n:=
 zfd _ _ h KD fun y=>(hm y).trans Xn.symm
def zm1 (f:Nat→Nat):Nat→Nat
 | 0=>0
 | n + 1=>zm1 f n + f n
theorem JP {p:Nat→Bool}:∀ {n:Nat},xI p n=zm1 (fun j=>if p j then 1 else 0) n
 | 0=>rfl
 | n + 1=>by
   have:xI p (n + 1)=xI p n + (if p n then 1 else 0):=by
    unfold xI
    rw [List.range_succ,List.countP_append]
    by_cases h:p n=true <;> simp [h]
   rw [this,JP (n:=n)];rfl
theorem Md {m i:Nat} (hi:i≤64):Jy .i64 (m:Int) (i:Int)=some ((m / 2 ^ i:Nat):Int):=by
 rw [zdP,Nat.min_eq_left hi]
theorem Mr {F n:Nat} {p:Nat→Bool} (hn:n≤8) (hF:20≤F):Xc F ((mkm p n:Nat):Int)=some (y5 p n):=by
 have key:∀ d k i (l:NL Int),i + d=n→d < k→l.list=y5 p i→vL F ((mkm p n:Nat):Int) k l (i:Int)=some (y5 p n):=by
  intro d
  induction d with
  | zero=>
    intro k i l hi hk hl
    obtain ⟨k,rfl⟩:∃ k',k=k' + 1:=⟨k - 1,by omega⟩
    obtain rfl:i=n:=by omega
    simp only [vL]
    rw [Md (by omega),zc,Nat.div_eq_of_lt Jq,hl];rfl
  | succ d ih=>
    intro k i l hi hk hl
    obtain ⟨k,rfl⟩:∃ k',k=k' + 1:=⟨k - 1,by omega⟩
    simp only [vL,XG]
    rw [Md (by omega),zc]
    have hw:w64 ((i:Int) + 1)=((i + 1:Nat):Int):=yh (n:=n) (by omega) (by unfold Sm;omega)
    by_cases hz:mkm p n / 2 ^ i=0
    · have:(((mkm p n / 2 ^ i:Nat):Int) != 0)=false:=by rw [hz];rfl
      rw [this,zj,hl]
      have hlt:mkm p n < 2 ^ i:=by
       rcases Nat.div_eq_zero_iff.1 hz with h | h
       · have:=Zt i;omega
       · exact h
      have hp:∀ j,i≤j→j < n→p j=false:=by
       intro j h1 h2
       have hb:=xA (p:=p) n j
       have:(mkm p n).testBit j=false:=Nat.testBit_lt_two_pow (uY hlt (Zy (by decide) h1))
       rw [this] at hb
       simpa [h2] using hb.symm
      have:∀ e,i + e≤n→y5 p (i + e)=y5 p i:=by
       intro e
       induction e with
       | zero=>intro _;rfl
       | succ e ihe=>intro he;rw [show i + (e + 1)=(i + e) + 1 by omega,MP,hp (i + e) (by omega) (by omega),ihe (by omega)];simp
      have h3:=this (n - i) (by omega)
      rw [show i + (n - i)=n by omega] at h3
      rw [h3]
    · have:(((mkm p n / 2 ^ i:Nat):Int) != 0)=true:=by
       rw [bne_iff_ne];intro h;exact hz (by exact_mod_cast h)
      rw [this,zn]
      obtain ⟨q,hq,hq1,_⟩:=zl8 (m:=mkm p n) (j:=i) (XP (by omega)) (by omega)
      have hd:decide (i < n)=true:=zt (by omega)
      have hq':((mkm p n / 2 ^ i:Nat):Int)=q:=Option.some.inj (by rw [← Md (by omega),hq])
      rw [zc,hq',hq1,xA,hd,yg,hw]
      have hc:=Uv (p:=p) (n:=i)
      have hs:=MP (p:=p) (n:=i)
      cases hp:p i with
      | true=>
        rw [zn,hl,zbw (by rw [uu];omega),zc]
        refine ih k (i + 1) _ (by omega) (by omega) ?_
        rw [hs,hp];rfl
      | false=>
        rw [zj]
        refine ih k (i + 1) _ (by omega) (by omega) ?_
        rw [hs,hp,hl];simp
 unfold Xc
 exact key n F 0 .nil (by omega) (by omega) rfl
/-! the number of edges that leave a set,counted by edges and by nodes -/
def xz (l:List Int) (i:Nat) (j:Nat):Bool:=decide ((j:Int)∈l.take i)
theorem XS {l:List Int} {i x:Nat} (hi:i < l.length) (hx:l.getD i 0=(x:Int)):∀ j,xz l (i + 1) j=(xz l i j || j == x):=by
 intro j
 unfold xz
 rw [List.take_add_one,yD hi,xe]
 have:l[i]=(x:Int):=by rw [← hx,zW,yD hi];rfl
 have h2:((j:Int)=(x:Int))↔j=x:=by omega
 simp [this,h2]
theorem NP {p:Nat→Bool} {n i:Nat} (hi:i < (y5 p n).length):∃ j:Nat,(y5 p n).getD i 0=j∧j < n∧p j=true:=Xn.1 (xr hi)
theorem zhs {l:List Int} (h:Srt l) {i j:Nat} (hij:i < j) (hj:j < l.length):l.getD i 0 < l.getD j 0:=by
 have:=List.pairwise_iff_getElem.1 h i j (by omega) hj hij
 rw [zW,yD (by omega),zW,yD hj]
 exact this
def w3 (l:List Int) (x:Int):Nat:=l.findIdx fun y=>!decide (y < x)
theorem za6 {l:List Int} {x:Int} {j:Nat} (hj:j < w3 l x) (hl:j < l.length):l.getD j 0 < x:=by
 have:=List.not_of_lt_findIdx (p:=fun y=>!decide (y < x)) (xs:=l) hj
 rw [zW,yD hl]
 simpa using this
theorem zbE {l:List Int} {x:Int} (h:w3 l x < l.length):¬ l.getD (w3 l x) 0 < x:=by
 have:=List.findIdx_getElem (p:=fun y=>!decide (y < x)) (xs:=l) (w:=h)
 rw [zW,yD h]
 intro hlt
 simp only [yI] at hlt
 have e:l[List.findIdx (fun y=>!decide (y < x)) l] < x:=hlt
 rw [zt e] at this
 cases this
theorem zhb {l:List Int} {x:Int}:w3 l x≤l.length:=List.findIdx_le_length
theorem J2 {α:Type} {xs:List α} {i:Nat} (h:i≤xs.length):sub xs (i:Int) (xs.length:Int)=some (xs.drop i):=by
 unfold sub
 rw [if_pos ⟨by omega,by omega,by omega⟩]
 simp only [xD]
 rw [List.take_of_length_le (by simp)]
theorem N4 {α:Type} {xs:List α} {i:Nat} (h:i≤xs.length):sub xs 0 (i:Int)=some (xs.take i):=by
 unfold sub
 rw [if_pos ⟨by omega,by omega,by omega⟩]
 simp
theorem MN {α:Type} {xs ys:List α} (h:xs.length + ys.length≤1099511627776):vW xs ys=some (xs++ys):=by
 unfold vW
 rw [if_pos]
 have:(2:Nat) ^ 40=1099511627776:=by decide
 omega
def Mg (l:List Int) (x:Int):List Int:=if w3 l x < l.length∧l.getD (w3 l x) 0=x then l else l.take (w3 l x)++[x]++l.drop (w3 l x)
theorem Qu {F:Nat} {l:List Int} {x:Int} (hF:l.length < F) (hl:l.length≤1000):ZH F l x=some (Mg l x):=by
 unfold ZH
 have hle:=zhb (l:=l) (x:=x)
 refine zeL (L:=fun k i=>vH F l x k i) (n:=w3 l x) ?_ ?_ F (by omega)
 · intro k i hi
   simp only [vH,Yr]
   have hlt:decide ((i:Int) < (l.length:Int))=true:=zt (by omega)
   have hx:=za6 hi (by omega)
   rw [hlt,zn,z8 (d:=0) (by omega),zc,zt hx,zn,yh hi (by unfold Sm;omega)]
 · intro k
   have hfin:Yu F l x (w3 l x:Int) false=some (l.take (w3 l x)++[x]++l.drop (w3 l x)):=by
    unfold Yu
    rw [zj,N4 hle,zc,MN (by simp;omega),zc,MN (by simp;omega),zc,J2 hle,zc,MN (by simp;omega),zc]
    simp
   unfold Mg
   simp only [vH,Yr]
   by_cases h:w3 l x < l.length
   · have hlt:decide ((w3 l x:Int) < (l.length:Int))=true:=zt (by omega)
     have hx:=zbE h
     rw [hlt,zn,z8 (d:=0) h,zc,zD hx,zj,zn,zc]
     by_cases e:l.getD (w3 l x) 0=x
     · have:(l.getD (w3 l x) 0 == x)=true:=by simpa using e
       rw [this,if_pos ⟨h,e⟩];rfl
     · have:(l.getD (w3 l x) 0 == x)=false:=by rw [beq_eq_false_iff_ne];exact e
       rw [this,if_neg (fun h=>e h.2)];exact hfin
   · have hlt:decide ((w3 l x:Int) < (l.length:Int))=false:=zD (by omega)
     rw [hlt,zj,zj,zj,if_neg (fun h'=>h h'.1)];exact hfin
theorem ziq {l:List Int} {x y:Int}:y∈Mg l x↔y∈l∨y=x:=by
 unfold Mg
 split
 · rename_i h
   constructor
   · exact .inl
   · rintro (h' | h')
     · exact h'
     · rw [h',← h.2];exact xr h.1
 · have:y∈l↔y∈l.take (w3 l x)∨y∈l.drop (w3 l x):=by
    rw [← zK,Zz]
   rw [this]
   simp only [zK,wI]
   constructor
   · rintro ((h | h) | h)
     · exact .inl (.inl h)
     · exact .inr h
     · exact .inl (.inr h)
   · rintro ((h | h) | h)
     · exact .inl (.inl h)
     · exact .inr h
     · exact .inl (.inr h)
theorem zf8 {l:List Int} {x:Int} (h:Srt l):Srt (Mg l x):=by
 unfold Mg
 split
 · exact h
 · rename_i hn
   have ht:∀ y∈l.take (w3 l x),y < x:=by
    intro y hy
    obtain ⟨i,hi,rfl⟩:=uP.1 hy
    have hi':i < w3 l x∧i < l.length:=by simp at hi;omega
    have:=za6 hi'.1 hi'.2
    rw [zW,yD hi'.2] at this
    simpa using this
   have hd:∀ y∈l.drop (w3 l x),x < y:=by
    intro y hy
    obtain ⟨i,hi,rfl⟩:=uP.1 hy
    have hi':w3 l x + i < l.length:=by simp at hi;omega
    have h1:=zbE (l:=l) (x:=x) (by omega)
    have h2:l.getD (w3 l x) 0≠x:=fun e=>hn ⟨by omega,e⟩
    have h3:l.getD (w3 l x) 0≤l.getD (w3 l x + i) 0:=by
     by_cases e:i=0
     · subst e;exact Int.le_refl _
     · exact Int.le_of_lt (zhs h (by omega) hi')
    have h4:l.getD (w3 l x + i) 0=(l.drop (w3 l x))[i]:=by
     rw [List.getElem_drop,zW,yD hi'];rfl
    omega
   unfold Srt at h ⊢
   have h0:(l.take (w3 l x)++l.drop (w3 l x)).Pairwise (· < ·):=by rw [Zz];exact h
   rw [List.pairwise_append] at h0
   rw [List.append_assoc,List.pairwise_append]
   refine ⟨h0.1,?_,?_⟩
   · rw [List.singleton_append,List.pairwise_cons]
     exact ⟨hd,h0.2.1⟩
   · intro a ha b hb
     rw [List.singleton_append,z4] at hb
     rcases hb with rfl | hb
     · exact ht a ha
     · exact h0.2.2 a ha b hb
theorem zcx {F n x:Nat} {p:Nat→Bool} (hn:n≤8) (hx:x < n) (hF:20≤F):ZH F (y5 p n) (x:Int)=some (y5 (fun j=>p j || j == x) n):=by
 have hc:=Uv (p:=p) (n:=n)
 rw [Qu (by rw [uu];omega) (by rw [uu];omega)]
 congr 1
 refine NZ (zf8 KD) fun y=>?_
 rw [ziq,Xn]
 constructor
 · rintro (⟨j,rfl,h1,h2⟩ | rfl)
   · exact ⟨j,rfl,h1,by simp [h2]⟩
   · exact ⟨x,rfl,hx,by simp⟩
 · rintro ⟨j,rfl,h1,h2⟩
   simp only [xm,yH] at h2
   rcases h2 with h2 | h2
   · exact .inl ⟨j,rfl,h1,h2⟩
   · exact .inr (by omega)
def stp (g:Gr) (p q:Nat→Bool) (j:Nat):Bool:=q j || (p j && wi (fun y=>q y && adj g y j) g.1.toNat)
def rch (g:Gr) (p:Nat→Bool) (x:Nat):Nat→Nat→Bool
 | 0=>fun j=>j == x
 | t + 1=>stp g p (rch g p x t)
def zbc (g:Gr) (p:Nat→Bool) (x:Nat):Nat→Bool:=rch g p x g.1.toNat
theorem UX {g:Gr} {p q:Nat→Bool} {j:Nat}:stp g p q j=true↔q j=true∨(p j=true∧∃ y,y < g.1.toNat∧q y=true∧adj g y j=true):=by
 unfold stp
 rw [xm,zq,wq]
 constructor
 · rintro (h | ⟨h,y,h1,h2⟩)
   · exact .inl h
   · rw [zq] at h2;exact .inr ⟨h,y,h1,h2.1,h2.2⟩
 · rintro (h | ⟨h,y,h1,h2,h3⟩)
   · exact .inl h
   · exact .inr ⟨h,y,h1,by rw [h2,h3];rfl⟩
theorem zbp {g:Gr} {p:Nat→Bool} {x t j:Nat} (h:rch g p x t j=true):∀ s,t≤s→rch g p x s j=true:=by
 intro s hs
 induction s with
 | zero=>obtain rfl:t=0:=by omega
         exact h
 | succ s ih=>
   by_cases e:t=s + 1
   · subst e;exact h
   · exact UX.2 (.inl (ih (by omega)))
theorem zcW {g:Gr} {p:Nat→Bool} {x:Nat} (hx:p x=true):∀ t j,rch g p x t j=true→p j=true
 | 0,j,h=>by
   have:j=x:=by simpa [rch] using h
   subst this;exact hx
 | t + 1,j,h=>by
   rcases UX.1 h with h | h
   · exact zcW hx t j h
   · exact h.1
theorem zc6 {g:Gr} (hg:xl g=true) {p:Nat→Bool} {x:Nat} (hx:x < g.1.toNat):∀ t j,rch g p x t j=true→j < g.1.toNat
 | 0,j,h=>by
   have:j=x:=by simpa [rch] using h
   subst this;exact hx
 | t + 1,j,h=>by
   rcases UX.1 h with h | ⟨_,y,_,_,h⟩
   · exact zc6 hg hx t j h
   · have:=JC hg h
     have:=yx hg
     omega
theorem Qk {p q:Nat→Bool}:∀ {n:Nat},(∀ j,j < n→p j=true→q j=true)→(∃ j,j < n∧p j=false∧q j=true)→xI p n + 1≤xI q n
 | 0,_,⟨_,h,_⟩=>by omega
 | n + 1,h,⟨j,hj,h1,h2⟩=>by
   rw [JP,JP]
   simp only [zm1]
   rw [← JP,← JP]
   by_cases e:j=n
   · subst e
     have hle:xI p j≤xI q j:=by
      unfold xI
      apply List.countP_mono_left
      intro x hx
      exact h x (by have:=List.mem_range.1 hx;omega)
     rw [h1,h2];simp;omega
   · have ih:=Qk (p:=p) (q:=q) (n:=n) (fun j hj=>h j (by omega)) ⟨j,by omega,h1,h2⟩
     have hn:=h n (by omega)
     by_cases hp:p n=true
     · rw [hp,hn hp];simp;omega
     · rw [Bool.not_eq_true] at hp;rw [hp];simp;omega
theorem zbl {p q:Nat→Bool} {n:Nat} (h:∀ j,j < n→p j=true→q j=true):xI p n≤xI q n:=by
 unfold xI
 apply List.countP_mono_left
 intro x hx
 exact h x (List.mem_range.1 hx)
theorem Mw {g:Gr} {p:Nat→Bool} {x t:Nat} (h:∀ j,rch g p x (t + 1) j=true→rch g p x t j=true):∀ s j,rch g p x (t + s) j=true→rch g p x t j=true
 | 0,j,hj=>hj
 | s + 1,j,hj=>by
   rcases UX.1 (show stp g p (rch g p x (t + s)) j=true from hj) with h1 | ⟨h1,y,hy,h2,h3⟩
   · exact Mw h s j h1
   · exact h j (UX.2 (.inr ⟨h1,y,hy,Mw h s y h2,h3⟩))
theorem zcU {g:Gr} (hg:xl g=true) {p:Nat→Bool} {x:Nat} (hx:x < g.1.toNat) (hp:p x=true):∃ t,t < xI p g.1.toNat∧∀ j,rch g p x (t + 1) j=true→rch g p x t j=true:=by
 apply Classical.byContradiction
 intro hne
 have hstep:∀ t,t < xI p g.1.toNat→∃ j,rch g p x (t + 1) j=true∧rch g p x t j=false:=by
  intro t ht
  apply Classical.byContradiction
  intro hno
  apply hne
  refine ⟨t,ht,fun j hj=>?_⟩
  cases h:rch g p x t j with
  | true=>rfl
  | false=>exact absurd ⟨j,hj,h⟩ hno
 have hgrow:∀ t,t≤xI p g.1.toNat→t + 1≤xI (rch g p x t) g.1.toNat:=by
  intro t
  induction t with
  | zero=>
    intro _
    have:=Qk (p:=fun _=>false) (q:=rch g p x 0) (n:=g.1.toNat) (by simp) ⟨x,hx,rfl,by simp [rch]⟩
    omega
  | succ t ih=>
    intro ht
    have h1:=ih (by omega)
    obtain ⟨j,hj1,hj2⟩:=hstep t (by omega)
    have:=Qk (p:=rch g p x t) (q:=rch g p x (t + 1)) (n:=g.1.toNat) (fun j _ h=>zbp h _ (by omega)) ⟨j,zc6 hg hx _ j hj1,hj2,hj1⟩
    omega
 have h1:=hgrow (xI p g.1.toNat) (yM _)
 have h2:xI (rch g p x (xI p g.1.toNat)) g.1.toNat≤xI p g.1.toNat:=zbl fun j _ h=>zcW hp _ j h
 omega
theorem zia {g:Gr} (hg:xl g=true) {p:Nat→Bool} {x:Nat} (hx:x < g.1.toNat) (hp:p x=true) {s:Nat} (hs:xI p g.1.toNat≤s + 1):∀ j,rch g p x s j=zbc g p x j:=by
 intro j
 obtain ⟨t,ht,hst⟩:=zcU hg hx hp
 have hcn:=Uv (p:=p) (n:=g.1.toNat)
 have key:∀ s,t≤s→(rch g p x s j=true↔rch g p x t j=true):=fun s hs=>⟨fun h=>by
  have:s=t + (s - t):=by omega
  rw [this] at h;exact Mw hst (s - t) j h,fun h=>zbp h s hs⟩
 rw [xe,key s (by omega)]
 unfold zbc
 rw [key g.1.toNat (by omega)]
theorem zjJ {g:Gr} {p:Nat→Bool} {x j:Nat} (hx:p x=true) (h:zbc g p x j=true):p j=true:=zcW hx _ j h
theorem zj4 {g:Gr} (hg:xl g=true) {p:Nat→Bool} {x j:Nat} (hx:x < g.1.toNat) (h:zbc g p x j=true):j < g.1.toNat:=zc6 hg hx _ j h
theorem zbn {g:Gr} (hg:xl g=true) {p:Nat→Bool} {x y j:Nat} (hx:x < g.1.toNat) (hp:p x=true) (hy:zbc g p x y=true) (hj:p j=true) (ha:adj g y j=true):zbc g p x j=true:=by
 have hcn:=Uv (p:=p) (n:=g.1.toNat)
 have:=zia hg hx hp (s:=g.1.toNat + 1) (by omega) j
 rw [← this]
 exact UX.2 (.inr ⟨hj,y,zj4 hg hx hy,hy,ha⟩)
def KQ (p:Nat→Bool):Nat→Option Nat
 | 0=>none
 | n + 1=>match KQ p n with
   | some x=>some x
   | none=>if p n then some n else none
theorem J8 {p:Nat→Bool}:∀ {n:Nat},KQ p n=none↔∀ j,j < n→p j=false
 | 0=>by simp [KQ]
 | n + 1=>by
   have ih:=J8 (p:=p) (n:=n)
   simp only [KQ]
   cases h:KQ p n with
   | some x=>
     simp only [reduceCtorEq,false_iff]
     intro hj
     have:=ih.2 (fun j hj'=>hj j (by omega))
     rw [h] at this;cases this
   | none=>
     simp only
     have h1:=ih.1 h
     by_cases hp:p n=true
     · rw [if_pos hp]
       simp only [reduceCtorEq,false_iff]
       intro hj;have:=hj n (by omega);rw [hp] at this;cases this
     · rw [if_neg hp]
       simp only [true_iff]
       intro j hj
       by_cases e:j=n
       · subst e;simpa using hp
       · exact h1 j (by omega)
theorem LZ {p:Nat→Bool} {x:Nat}:∀ {n:Nat},KQ p n=some x→x < n∧p x=true∧∀ j,j < x→p j=false
 | 0,h=>by simp [KQ] at h
 | n + 1,h=>by
   simp only [KQ] at h
   cases h1:KQ p n with
   | some y=>
     rw [h1] at h
     simp only [zf] at h
     subst h
     have:=LZ h1
     exact ⟨by omega,this.2⟩
   | none=>
     rw [h1] at h
     simp only at h
     split at h
     · rename_i hp
       simp only [zf] at h
       subst h
       exact ⟨by omega,hp,J8.1 h1⟩
     · cases h
theorem zhq {p:Nat→Bool} {n:Nat}:mkm p n=0↔KQ p n=none:=by
 rw [J8]
 constructor
 · intro h j hj
   have:=xA (p:=p) n j
   rw [h,Yo] at this
   simpa [hj] using this.symm
 · intro h
   apply ZF;intro j
   rw [xA,Yo]
   by_cases hj:j < n
   · simp [h j hj]
   · simp [hj]
def spr (g:Gr) (f u:Nat→Bool) (j:Nat):Bool:=wi (fun y=>u y && f y && zbc g f y j) g.1.toNat
def Ki (step:Int):Int:=if step < 0 then -1 - step else step
def zl6 (n:Nat) (p:Nat→Bool) (step:Int):Bool:=decide (Ki step < n) && (p (Ki step).toNat == decide (step < 0))
def Up (p:Nat→Bool) (step:Int) (j:Nat):Bool:=if step < 0 then p j && !(j == (Ki step).toNat) else p j || j == (Ki step).toNat
end Go.Zq
