/- Plain mathematics (part 1). Conditions: stated in each theorem. -/
import Derived.Test.YtelahampjnaimaeK3
import Derived.Test.YtelahampjnaimaeGT
set_option linter.unusedVariables false
set_option linter.unusedSimpArgs false
namespace Go.Zq
def Uk (F:Nat) (x_1:Int) (x_2:Int) (x_8:Int) (c1:(List Int)→Int→Option (List Int)) (x_15:(List Int)):Option (List Int):=
 c1 x_15 (w64 (x_8 + 1))
def uP (F:Nat) (x_1:Int) (x_2:Int) :Nat→(List Int)→Int→Option (List Int)
 | 0,_,_=>none
 | k + 1,x_7,x_8=>
   bif decide (x_8 < x_1) then
    (Um .i64 x_2 x_8).bind fun q_13=>
    bif ((yI .i64 q_13 1) == 1) then
     (vh x_7 [x_8]).bind fun ap_16=>
     Uk F x_1 x_2 x_8 (uP F x_1 x_2 k) ap_16
    else
     Uk F x_1 x_2 x_8 (uP F x_1 x_2 k) x_7
   else
    some x_7
def zcJ (F:Nat) (x_1:Int) (x_2:Int):Option (List Int):=
 uP F x_1 x_2 F [] 0
def Ju (F:Nat) (x_1:Int) (x_8:Int) (c1:(NL Int)→Int→Option (NL Int)) (x_17:(NL Int)):Option (NL Int):=
 c1 x_17 (w64 (x_8 + 1))
def Xh (F:Nat) (x_1:Int) :Nat→(NL Int)→Int→Option (NL Int)
 | 0,_,_=>none
 | k + 1,x_7,x_8=>
   (Um .i64 x_1 x_8).bind fun q_14=>
   bif (q_14 != 0) then
    (Um .i64 x_1 x_8).bind fun q_15=>
    bif ((yI .i64 q_15 1) == 1) then
     (vh x_7.list [x_8]).bind fun ap_18=>
     Ju F x_1 x_8 (Xh F x_1 k) (.of ap_18)
    else
     Ju F x_1 x_8 (Xh F x_1 k) x_7
   else
    some x_7
def KA (F:Nat) (x_1:Int):Option (NL Int):=
 Xh F x_1 F .nil 0
def w6 (F:Nat) (x_2:(List Int)) (x_1:(Int×(List (Int×Int)))) (ap_33:(List (NL Int))) (x_18:(NL (Int×Int))) (x_19:Int) (r_7:(List Int)) (c1:(NL (NL Int))→(NL (Int×Int))→Int→Option (((NL (NL Int))×(NL (Int×Int)))×Bool)) (x_35:Int):Option (((NL (NL Int))×(NL (Int×Int)))×Bool):=
 (vh x_18.list [(x_19,x_35)]).bind fun ap_36=>
 c1 (.of ap_33) (.of ap_36) (w64 (x_19 + 1))
def yF (F:Nat) (x_2:(List Int)) (x_1:(Int×(List (Int×Int)))) (r_7:(List Int)) :Nat→(NL (NL Int))→(NL (Int×Int))→Int→Option (((NL (NL Int))×(NL (Int×Int)))×Bool)
 | 0,_,_,_=>none
 | k + 1,x_17,x_18,x_19=>
   bif decide (x_19 < (r_7.length:Int)) then
    (idx r_7 x_19).bind fun e_29=>
    (idx x_2 x_19).bind fun e_30=>
    (Uv .i64 1 e_30).bind fun q_31=>
    (KA F (ior .i64 e_29 q_31)).bind fun r_32=>
    (vh x_17.list [r_32]).bind fun ap_33=>
    bif (x_19 == (w64 (x_1.1 - 1))) then
     some (((.of ap_33),x_18),true)
    else
     bif (e_29 != 0) then
      (yo F x_2 (Cl.mk () ((Rf.mk e_29:(Rf Int)),()):(Cl 33 Unit ((Rf Int)×Unit)))).bind fun r_37=>
      w6 F x_2 x_1 ap_33 x_18 x_19 r_7 (yF F x_2 x_1 r_7 k) r_37
     else
      w6 F x_2 x_1 ap_33 x_18 x_19 r_7 (yF F x_2 x_1 r_7 k) (w64 (x_19 + 1))
   else
    some ((x_17,x_18),true)
def w4 (F:Nat) (x_2:(List Int)) (x_1:(Int×(List (Int×Int))))  (x_5:Bool):Option (((NL (NL Int))×(NL (Int×Int)))×Bool):=
 bif x_5 then
  some ((.nil,.nil),false)
 else
  (ZX F x_1).bind fun r_6=>
  (xu F r_6 x_2).bind fun r_7=>
  yF F x_2 x_1 r_7 F .nil .nil 0
def Yv (F:Nat) (x_1:(Int×(List (Int×Int)))) (x_2:(List Int)):Option (((NL (NL Int))×(NL (Int×Int)))×Bool):=
 (vl F x_1).bind fun r_38=>
 bif (!r_38) then
  w4 F x_2 x_1 true
 else
  (Yh F x_1 x_2).bind fun r_39=>
  bif (!r_39) then
   w4 F x_2 x_1 true
  else
   w4 F x_2 x_1 (x_1.1 == 0)
theorem vP {x:Int} (h1:-9223372036854775808≤x) (h2:x < 9223372036854775808):w64 x=x:=by
 show IntKind.wrap .i64 x=x
 simp only [IntKind.wrap,IntKind.bits,IntKind.signed,z6]
 have e1:((2:Int) ^ 64)=18446744073709551616:=by decide
 have e2:((2:Int) ^ (64 - 1))=9223372036854775808:=by decide
 simp only [e1,e2]
 split
 · rename_i h;simp only [ge_iff_le,ya] at h;omega
 · rename_i h;simp only [ge_iff_le,ya] at h;omega
def Sm (n:Nat):Prop:=n≤4611686018427387904
theorem yw {i n:Nat} (hi:i < n) (hn:Sm n):w64 ((i:Int) + 1)=((i + 1:Nat):Int):=by
 unfold Sm at hn
 rw [vP (by omega) (by omega)];omega
theorem JG {i n:Nat} (h0:0 < i) (hi:i < n) (hn:Sm n):w64 ((i:Int) - 1)=((i - 1:Nat):Int):=by
 unfold Sm at hn
 rw [vP (by omega) (by omega)];omega
theorem Kt {α:Type} {xs:List α} {i:Nat} (h:i < xs.length):idx xs (i:Int)=some xs[i]:=by
 unfold idx
 rw [if_pos (by omega)]
 simp [h]
theorem z9 {α:Type} {xs:List α} {i:Nat} {d:α} (h:i < xs.length):idx xs (i:Int)=some (xs.getD i d):=by
 rw [Kt h];simp [h]
def wG (p:Nat→Bool):Nat→Bool
 | 0=>true
 | n + 1=>wG p n && p n
def ZU (p:Nat→Bool):Nat→Bool
 | 0=>false
 | n + 1=>ZU p n || p n
theorem yV {p:Nat→Bool}:∀ {n:Nat},wG p n=true↔∀ i,i < n→p i=true
 | 0=>by simp [wG]
 | n + 1=>by
   simp only [wG,zp,yV]
   constructor
   · rintro ⟨h1,h2⟩ i hi
     by_cases e:i=n
     · subst e;exact h2
     · exact h1 i (by omega)
   · intro h
     exact ⟨fun i hi=>h i (by omega),h n (by omega)⟩
theorem NZ {p q:Nat→Bool} {n:Nat} (h:∀ i,i < n→p i=q i):wG p n=wG q n:=by
 rw [yJ,yV,yV]
 constructor
 · intro h1 i hi;rw [← h i hi];exact h1 i hi
 · intro h1 i hi;rw [h i hi];exact h1 i hi
theorem xN {p:Nat→Bool}:∀ {n:Nat},ZU p n=true↔∃ i,i < n∧p i=true
 | 0=>by simp [ZU]
 | n + 1=>by
   simp only [ZU,y8,xN]
   constructor
   · rintro (⟨i,h1,h2⟩ | h)
     · exact ⟨i,by omega,h2⟩
     · exact ⟨n,by omega,h⟩
   · rintro ⟨i,h1,h2⟩
     by_cases e:i=n
     · subst e;exact .inr h2
     · exact .inl ⟨i,by omega,h2⟩
theorem Jw {p:Nat→Bool} {n:Nat}:ZU p n=!wG (fun i=>!p i) n:=by
 induction n with
 | zero=>rfl
 | succ n ih=>simp [ZU,wG,ih,Bool.not_and]
theorem KY {p q:Nat→Bool} {n:Nat} (h:∀ i,i < n→p i=q i):ZU p n=ZU q n:=by
 rw [Jw,Jw,NZ];intro i hi;rw [h i hi]
theorem vQ {β:Type} {L:Nat→Int→Option β} {n:Nat} {p:Nat→Bool} {bad fin:Option β} (hs:∀ k i,i < n→L (k + 1) (i:Int)=bif p i then L k ((i + 1:Nat):Int) else bad) (he:∀ k,L (k + 1) (n:Int)=fin) :
    ∀ k,n < k→L k 0=bif wG p n then fin else bad:=by
 have key:∀ d k i,i + d=n→d < k→(∀ j,j < i→p j=true)→L k (i:Int)=bif wG p n then fin else bad:=by
  intro d
  induction d with
  | zero=>
    intro k i hi hk hp
    obtain ⟨k,rfl⟩:∃ k',k=k' + 1:=⟨k - 1,by omega⟩
    obtain rfl:i=n:=by omega
    rw [he,show wG p i=true from yV.2 hp];rfl
  | succ d ih=>
    intro k i hi hk hp
    obtain ⟨k,rfl⟩:∃ k',k=k' + 1:=⟨k - 1,by omega⟩
    rw [hs k i (by omega)]
    cases hpi:p i with
    | true=>
      simp only [zq]
      refine ih k (i + 1) (by omega) (by omega) ?_
      intro j hj
      by_cases e:j=i
      · subst e;exact hpi
      · exact hp j (by omega)
    | false=>
      have:wG p n=false:=by
       rw [Bool.eq_false_iff];intro h
       have:=yV.1 h i (by omega);rw [hpi] at this;cases this
      rw [this];rfl
 intro k hk
 exact key n k 0 (by omega) hk (by simp)
theorem zgC {β σ:Type} {L:Nat→Int→σ→Option β} {n:Nat} (I:Nat→σ→Prop) {fin:σ→Option β} (st:Nat→σ→σ)
    (hs:∀ k i s,i < n→I i s→L (k + 1) (i:Int) s=L k ((i + 1:Nat):Int) (st i s)) (hi:∀ i s,i < n→I i s→I (i + 1) (st i s)) (he:∀ k s,I n s→L (k + 1) (n:Int) s=fin s) :
    ∀ k s0,n < k→I 0 s0→∃ s,I n s∧L k 0 s0=fin s∧s=(List.range n).foldl (fun s i=>st i s) s0:=by
 have key:∀ d k i s,i + d=n→d < k→I i s→∃ s',I n s'∧L k (i:Int) s=fin s'∧s'=(List.range' i d).foldl (fun s i=>st i s) s:=by
  intro d
  induction d with
  | zero=>
    intro k i s hi hk hI
    obtain ⟨k,rfl⟩:∃ k',k=k' + 1:=⟨k - 1,by omega⟩
    obtain rfl:i=n:=by omega
    exact ⟨s,hI,he k s hI,rfl⟩
  | succ d ih=>
    intro k i s hd hk hI
    obtain ⟨k,rfl⟩:∃ k',k=k' + 1:=⟨k - 1,by omega⟩
    rw [hs k i s (by omega) hI]
    obtain ⟨s',h1,h2,h3⟩:=ih k (i + 1) (st i s) (by omega) (by omega) (hi i s (by omega) hI)
    exact ⟨s',h1,h2,by rw [h3,List.range'_succ];rfl⟩
 intro k s0 hk hI
 obtain ⟨s',h1,h2,h3⟩:=key n k 0 s0 (by omega) hk hI
 exact ⟨s',h1,h2,by rw [h3,List.range_eq_range']⟩
theorem ZD {β σ:Type} {L:Nat→Int→σ→Option β} {n:Nat} (I:Nat→σ→Prop) {r:Option β}
    (hs:∀ k i s,i < n→I i s→∃ s',I (i + 1) s'∧L (k + 1) (i:Int) s=L k ((i + 1:Nat):Int) s') (he:∀ k s,I n s→L (k + 1) (n:Int) s=r) :
    ∀ k s0,n < k→I 0 s0→L k 0 s0=r:=by
 have key:∀ d k i s,i + d=n→d < k→I i s→L k (i:Int) s=r:=by
  intro d
  induction d with
  | zero=>
    intro k i s hi hk hI
    obtain ⟨k,rfl⟩:∃ k',k=k' + 1:=⟨k - 1,by omega⟩
    obtain rfl:i=n:=by omega
    exact he k s hI
  | succ d ih=>
    intro k i s hd hk hI
    obtain ⟨k,rfl⟩:∃ k',k=k' + 1:=⟨k - 1,by omega⟩
    obtain ⟨s',h1,h2⟩:=hs k i s (by omega) hI
    rw [h2]
    exact ih k (i + 1) s' (by omega) (by omega) h1
 intro k s0 hk hI
 exact key n k 0 s0 (by omega) hk hI
theorem zbs {α:Type} {n:Nat} {x:α} (h:n≤1099511627776):mkN (n:Int) x=some (List.replicate n x):=by
 unfold mkN
 rw [if_pos ⟨by omega,by have:((2:Int) ^ 40)=1099511627776:=by decide
                         omega⟩]
 simp
theorem MF {β:Type} {L:Nat→Int→Option β} {n:Nat} {r:Option β} (hs:∀ k i,i < n→L (k + 1) (i:Int)=L k ((i + 1:Nat):Int)) (he:∀ k,L (k + 1) (n:Int)=r):∀ k,n < k→L k 0=r:=by
 intro k hk
 exact ZD (L:=fun k i (_:Unit)=>L k i) (fun _ _=>True) (fun k i s hi _=>⟨(),trivial,hs k i hi⟩) (fun k s _=>he k) k () hk trivial
theorem vS {α:Type} {l:List α} {i:Nat} {d:α} (h:i < l.length):l.getD i d∈l:=by
 rw [zU,yW h];exact XL h
theorem zkU {β σ:Type} {L:Nat→Int→σ→Option β} {n:Nat} (I:Nat→σ→Prop) {p:Nat→Bool} {r bad:Option β}
    (hs:∀ k i s,i < n→I i s→p i=true→∃ s',I (i + 1) s'∧L (k + 1) (i:Int) s=L k ((i + 1:Nat):Int) s') (hb:∀ k i s,i < n→I i s→p i=false→L (k + 1) (i:Int) s=bad) (he:∀ k s,I n s→L (k + 1) (n:Int) s=r) :
    ∀ k s0,n < k→I 0 s0→L k 0 s0=bif wG p n then r else bad:=by
 have key:∀ d k i s,i + d=n→d < k→I i s→(∀ j,j < i→p j=true)→L k (i:Int) s=bif wG p n then r else bad:=by
  intro d
  induction d with
  | zero=>
    intro k i s hi hk hI hp
    obtain ⟨k,rfl⟩:∃ k',k=k' + 1:=⟨k - 1,by omega⟩
    obtain rfl:i=n:=by omega
    rw [he k s hI,show wG p i=true from yV.2 hp];rfl
  | succ d ih=>
    intro k i s hd hk hI hp
    obtain ⟨k,rfl⟩:∃ k',k=k' + 1:=⟨k - 1,by omega⟩
    cases hpi:p i with
    | true=>
      obtain ⟨s',h1,h2⟩:=hs k i s (by omega) hI hpi
      rw [h2]
      refine ih k (i + 1) s' (by omega) (by omega) h1 ?_
      intro j hj
      by_cases e:j=i
      · subst e;exact hpi
      · exact hp j (by omega)
    | false=>
      rw [hb k i s (by omega) hI hpi]
      have:wG p n=false:=by
       rw [Bool.eq_false_iff];intro h
       have:=yV.1 h i (by omega);rw [hpi] at this;cases this
      rw [this];rfl
 intro k s0 hk hI
 exact key n k 0 s0 (by omega) hk hI (by simp)
theorem YJ {α:Type} {xs:List α} {y:α} (h:xs.length < 1099511627776):vh xs [y]=some (xs++[y]):=by
 unfold vh
 rw [if_pos]
 have:(2:Nat) ^ 40=1099511627776:=by decide
 simp;omega
theorem Ui {β σ:Type} {L:Nat→Int→σ→Option β} {n:Nat} (I:Nat→σ→Prop) {fin:σ→Option β}
    (hs:∀ k i s,i < n→I i s→∃ s',I (i + 1) s'∧L (k + 1) (i:Int) s=L k ((i + 1:Nat):Int) s') (he:∀ k s,I n s→L (k + 1) (n:Int) s=fin s) :
    ∀ k s0,n < k→I 0 s0→∃ s,I n s∧L k 0 s0=fin s:=by
 have key:∀ d k i s,i + d=n→d < k→I i s→∃ s',I n s'∧L k (i:Int) s=fin s':=by
  intro d
  induction d with
  | zero=>
    intro k i s hi hk hI
    obtain ⟨k,rfl⟩:∃ k',k=k' + 1:=⟨k - 1,by omega⟩
    obtain rfl:i=n:=by omega
    exact ⟨s,hI,he k s hI⟩
  | succ d ih=>
    intro k i s hd hk hI
    obtain ⟨k,rfl⟩:∃ k',k=k' + 1:=⟨k - 1,by omega⟩
    obtain ⟨s',h1,h2⟩:=hs k i s (by omega) hI
    rw [h2]
    exact ih k (i + 1) s' (by omega) (by omega) h1
 intro k s0 hk hI
 exact key n k 0 s0 (by omega) hk hI
theorem w1:w64 1=1:=by decide
theorem w2:w64 2=2:=by decide
theorem MI {n:Nat} (h:n < 9223372036854775808):w64 (n:Int)=n:=vP (by omega) (by omega)
theorem LE (n:Nat) (h:n < 9223372036854775808):(BitVec.ofInt (IntKind.bits .i64) (n:Int)).toNat=n:=by
 show (BitVec.ofInt 64 (n:Int)).toNat=n
 rw [BitVec.ofInt_natCast,BitVec.toNat_ofNat]
 exact Nat.mod_eq_of_lt (by omega)
theorem Wv {a b:Nat} (ha:a < 9223372036854775808) (hb:b < 9223372036854775808):ior .i64 a b=((a ||| b:Nat):Int):=by
 unfold ior
 rw [BitVec.toNat_or,LE a ha,LE b hb]
 exact MI (Nat.or_lt_two_pow (n:=63) ha hb)
theorem Ub {a b:Nat} (ha:a < 9223372036854775808) (hb:b < 9223372036854775808):yI .i64 a b=((a &&& b:Nat):Int):=by
 unfold yI
 rw [BitVec.toNat_and,LE a ha,LE b hb]
 exact MI (Nat.and_lt_two_pow (n:=63) a hb)
theorem Zn {a b:Nat} (ha:a < 9223372036854775808) (hb:b < 9223372036854775808):∃ c:Nat,yx .i64 a b=(c:Int)∧c≤a∧∀ j,c.testBit j=(a.testBit j && !b.testBit j):=by
 refine ⟨a &&& (18446744073709551615 - b),?_,Nat.and_le_left,?_⟩
 · unfold yx
   rw [BitVec.toNat_and,BitVec.toNat_not,LE a ha,LE b hb]
   have e:(2:Nat) ^ (IntKind.bits .i64) - 1 - b=18446744073709551615 - b:=rfl
   rw [e]
   exact MI (Nat.lt_of_le_of_lt Nat.and_le_left ha)
 · intro j
   rw [Nat.testBit_and]
   have e:18446744073709551615 - b=2 ^ 64 - (b + 1):=by
    have:(2:Nat) ^ 64=18446744073709551616:=by decide
    omega
   rw [e,Nat.testBit_two_pow_sub_succ (by have:(2:Nat) ^ 64=18446744073709551616:=by decide
                                          omega)]
   by_cases hj:j < 64
   · simp [hj]
   · have:a.testBit j=false:=Nat.testBit_lt_two_pow (Yj ha (vG (n:=2) (by decide) (show 63≤j by omega)))
     simp [this]
theorem zkn {a j:Nat} (hj:j≤62) (ha:a * 2 ^ j < 9223372036854775808):Uv .i64 (a:Int) (j:Int)=some (((a * 2 ^ j:Nat)):Int):=by
 unfold Uv
 rw [zy (by omega)]
 have e:(min (j:Int).toNat (IntKind.bits .i64))=j:=by
  simp only [z8]
  exact Nat.min_eq_left (by show j≤64;omega)
 rw [e]
 have:=MI ha
 rw [show ((a:Int) * 2 ^ j)=((a * 2 ^ j:Nat):Int) by simp]
 rw [show IntKind.i64.wrap ((a * 2 ^ j:Nat):Int)=w64 ((a * 2 ^ j:Nat):Int) from rfl,this]
theorem um {j:Nat} (hj:j≤62):Uv .i64 1 (j:Int)=some ((2 ^ j:Nat):Int):=by
 have h:1 * 2 ^ j < 9223372036854775808:=by
  have:=vG (n:=2) (by decide) hj
  have e:(2:Nat) ^ 62=4611686018427387904:=by decide
  omega
 have:=zkn (a:=1) hj h
 simpa using this
theorem zf5 {a j:Nat}:Um .i64 (a:Int) (j:Int)=some ((a / 2 ^ (min j 64):Nat):Int):=by
 unfold Um
 rw [zy (by omega)]
 simp only [z8]
 have:(IntKind.bits .i64)=64:=rfl
 rw [this]
 rw [Int.fdiv_eq_ediv_of_nonneg _ (by exact_mod_cast Nat.zero_le _)]
 simp
theorem Yt {j:Nat} (hj:j≤62):(2:Nat) ^ j < 9223372036854775808:=by
 have:=vG (n:=2) (by decide) hj
 have e:(2:Nat) ^ 62=4611686018427387904:=by decide
 omega
def zdz (m:Nat) (p:Nat→Bool):Prop:=m < 9223372036854775808∧∀ j,m.testBit j=p j
theorem zd4 {n:Nat} (hn:n≤62):zdz (2 ^ n - 1) (fun j=>decide (j < n)):=
 ⟨by have:=Yt hn;omega,fun j=>by rw [Nat.testBit_two_pow_sub_one]⟩
theorem UY:∀ (n:Nat) (l:List Int),(∀ j,j < n→(j:Int)∈l)→n≤l.length∧(l.length=n→∀ y∈l,0≤y∧y < n)
 | 0,l,_=>⟨Nat.zero_le _,fun h y hy=>by rw [List.length_eq_zero_iff.1 h] at hy;cases hy⟩
 | n + 1,l,h=>by
   have hn:=h n (by omega)
   have hp:=List.length_pos_of_mem hn
   have ih:=UY n (l.erase (n:Int)) (fun j hj=>(List.mem_erase_of_ne (by omega)).2 (h j (by omega)))
   rw [List.length_erase_of_mem hn] at ih
   refine ⟨by omega,fun hl y hy=>?_⟩
   by_cases e:y=n
   · subst e;omega
   · have:=ih.2 (by omega) y ((List.mem_erase_of_ne e).2 hy)
     omega
theorem QC:∀ (n:Nat) (l:List Int),l.Nodup→(∀ x∈l,0≤x∧x < n)→l.length≤n
 | 0,l,_,h=>by
   cases l with
   | nil=>simp
   | cons x l=>have:=h x (by simp);omega
 | n + 1,l,hn,h=>by
   have hs:∀ x∈l.erase (n:Int),0≤x∧x < n:=by
    intro x hx
    have h1:=(hn.mem_erase_iff).1 hx
    have:=h x h1.2
    omega
   have ih:=QC n (l.erase (n:Int)) (hn.erase _) hs
   by_cases hm:(n:Int)∈l
   · rw [List.length_erase_of_mem hm] at ih;omega
   · rw [List.erase_of_not_mem hm] at ih;omega
theorem zby {m j:Nat} (hm:m < 9223372036854775808) (hj:j≤62):∃ q:Int,Um .i64 (m:Int) (j:Int)=some q∧(yI .i64 q 1 == 1)=m.testBit j∧(yI .i64 q 1 == 0)=!m.testBit j:=by
 refine ⟨_,zf5,?_⟩
 have e:min j 64=j:=by omega
 rw [e]
 have hq:m / 2 ^ j < 9223372036854775808:=Nat.lt_of_le_of_lt (Nat.div_le_self _ _) hm
 have:=Ub hq (b:=1) (by omega)
 rw [show ((1:Nat):Int)=1 from rfl] at this
 rw [this,Nat.and_one_is_mod]
 have hb:m.testBit j=decide (m / 2 ^ j % 2=1):=by
  rw [Nat.testBit_eq_decide_div_mod_eq]
 rw [hb]
 have h2:=Nat.mod_two_eq_zero_or_one (m / 2 ^ j)
 rcases h2 with h2 | h2 <;> simp [h2]
abbrev Gr:=Int×List (Int×Int)
theorem LO {F:Nat} {n lo hi:Int}:Wb F n lo hi=some (decide (lo≤n) && decide (n≤hi)):=by
 unfold Wb
 by_cases h:n≥lo
 · simp [h]
 · have:¬ lo≤n:=h
   simp [this]
theorem MK {F:Nat} {n lo hi:Int}:W0 F n lo hi=some (decide (lo≤n) && decide (n≤hi)):=by
 unfold W0
 by_cases h:n≥lo
 · simp [h]
 · have:¬ lo≤n:=h
   simp [this]
def bef (a b:Int×Int):Bool:=decide (a.1 < b.1) || (a.1 == b.1) && decide (a.2 < b.2)
theorem Ug {F:Nat} {a b:Int×Int}:Zu F a b=some (bef a b):=by
 unfold Zu bef
 by_cases h:a.1 < b.1
 · simp [h]
 · cases e:(a.1 == b.1) <;> simp [h]
theorem znW {F:Nat} {x y:Int}:vL F x y=some (if x < y then -1 else if x > y then 1 else 0):=by
 unfold vL uV
 by_cases h:x < y
 · simp [h]
 · by_cases h2:y < x <;> simp [h,h2]
theorem zkH {F:Nat} {a b:Int×Int} (hF:3≤F):∃ r,ul F [a.1,a.2] [b.1,b.2]=some r∧(decide (r≥0)=!bef a b):=by
 obtain ⟨k,rfl⟩:∃ k,F=k + 3:=⟨F - 3,by omega⟩
 obtain ⟨a1,a2⟩:=a
 obtain ⟨b1,b2⟩:=b
 unfold ul
 simp only [uQ,znW,bef]
 by_cases h1:a1 < b1
 · refine ⟨-1,?_,?_⟩ <;> simp [idx,h1]
 · by_cases h2:b1 < a1
   · have e:¬ a1=b1:=by omega
     refine ⟨1,?_,?_⟩
     · simp [idx,h1,h2]
     · simp [h1,e]
   · obtain rfl:a1=b1:=by omega
     by_cases h3:a2 < b2
     · refine ⟨-1,?_,?_⟩ <;> simp [idx,h3,w1]
     · by_cases h4:b2 < a2
       · refine ⟨1,?_,?_⟩ <;> simp [idx,h3,h4,w1]
       · obtain rfl:a2=b2:=by omega
         refine ⟨0,?_,?_⟩ <;> simp [idx,w1,w2]
def okE (n:Int) (es:List (Int×Int)) (i:Nat):Bool:=
 decide (0≤(es.getD i (0,0)).1) && decide ((es.getD i (0,0)).1 < (es.getD i (0,0)).2) && decide ((es.getD i (0,0)).2 < n) && (i == 0 || bef (es.getD (i - 1) (0,0)) (es.getD i (0,0)))
def y0 (g:Gr):Bool:=decide (0≤g.1) && decide (g.1≤8) && wG (okE g.1 g.2) g.2.length
theorem YU {F:Nat} {g:Gr} (hF:g.2.length < F) (h3:3≤F) (hl:Sm g.2.length):vl F g=some (y0 g):=by
 unfold vl
 rw [LO,ze]
 unfold y0
 by_cases h:0≤g.1∧g.1≤8
 · simp only [h.1,h.2,decide_true,wT,yS,zo,z6]
   rw [vQ (L:=fun k i=>xH F g k i) (n:=g.2.length) (p:=okE g.1 g.2) (bad:=some false) (fin:=some true) ?_ ?_ F hF]
   · cases wG (okE g.1 g.2) g.2.length <;> rfl
   · intro k i hi
     simp only [xH,uO]
     rw [z9 (d:=(0,0)) hi,yw hi hl]
     have hlt:decide ((i:Int) < g.2.length)=true:=by simp [hi]
     simp only [hlt,zq,ze,okE]
     generalize g.2.getD i (0,0)=e
     by_cases h1:e.1 < 0
     · have:¬ 0≤e.1:=by omega
       simp [h1,this]
     · by_cases h2:e.1≥e.2
       · have:¬ e.1 < e.2:=by omega
         simp [h1,h2,this]
       · by_cases h4:e.2≥g.1
         · have:¬ e.2 < g.1:=by omega
           simp [h1,h2,h4,this]
         · have a1:0≤e.1:=by omega
           have a2:e.1 < e.2:=by omega
           have a3:e.2 < g.1:=by omega
           simp only [h1,h2,h4,a1,a2,a3,decide_true,decide_false,zo,wT,z6]
           by_cases h5:i=0
           · subst h5;simp
           · have h6:decide ((i:Int) > 0)=true:=by simp;omega
             have h7:(i == 0)=false:=by simpa using h5
             rw [h6,zq,JG (by omega) hi hl,z9 (d:=(0,0)) (by omega),h7]
             obtain ⟨r,hr,hr2⟩:=zkH (F:=F) (a:=g.2.getD (i - 1) (0,0)) (b:=e) h3
             simp only [ze,hr,hr2,ZO]
             cases bef (g.2.getD (i - 1) (0,0)) e <;> rfl
   · intro k;simp [xH]
 · have:(decide (0≤g.1) && decide (g.1≤8))=false:=by
    rw [Bool.eq_false_iff];intro h';apply h;simpa using h'
   simp [this]
theorem Kp {F:Nat} {g:Gr} (hF:g.2.length < F) (hl:Sm g.2.length):Xw F g=some (y0 g):=by
 unfold Xw
 let p:Nat→Bool:=fun i=>decide (0≤(g.2.getD i (0,0)).1) && decide ((g.2.getD i (0,0)).1≤w64 (g.1 - 1)) && (decide (0≤(g.2.getD i (0,0)).2) && decide ((g.2.getD i (0,0)).2≤w64 (g.1 - 1))) && decide ((g.2.getD i (0,0)).1 < (g.2.getD i (0,0)).2) && (i == 0 || bef (g.2.getD (i - 1) (0,0)) (g.2.getD i (0,0)))
 rw [vQ (L:=fun k i=>wa F g k i) (n:=g.2.length) (p:=p) (bad:=some false) (fin:=some (decide (0≤g.1) && decide (g.1≤8))) ?_ ?_ F hF]
 · unfold y0
   by_cases h:0≤g.1∧g.1≤8
   · have hw:w64 (g.1 - 1)=g.1 - 1:=vP (by omega) (by omega)
     rw [NZ (q:=okE g.1 g.2)]
     · cases wG (okE g.1 g.2) g.2.length <;> simp [h.1,h.2]
     · intro i _
       simp only [p,okE,hw]
       generalize g.2.getD i (0,0)=e
       generalize (i == 0 || bef (g.2.getD (i - 1) (0,0)) e)=b
       rw [yJ]
       simp only [zp,ya]
       constructor
       · rintro ⟨⟨⟨⟨a1,a2⟩,a3,a4⟩,a5⟩,a6⟩;exact ⟨⟨⟨a1,a5⟩,by omega⟩,a6⟩
       · rintro ⟨⟨⟨a1,a5⟩,a4⟩,a6⟩;exact ⟨⟨⟨⟨a1,by omega⟩,by omega,by omega⟩,a5⟩,a6⟩
   · have:(decide (0≤g.1) && decide (g.1≤8))=false:=by
      rw [Bool.eq_false_iff];intro h';apply h;simpa using h'
     rw [this];cases wG p g.2.length <;> rfl
 · intro k i hi
   simp only [wa,Zp,MK,ze]
   rw [z9 (d:=(0,0)) hi,yw hi hl]
   have hlt:decide ((i:Int) < g.2.length)=true:=by simp [hi]
   simp only [hlt,zq,ze,p]
   generalize g.2.getD i (0,0)=e
   generalize (decide (0≤e.1) && decide (e.1≤w64 (g.1 - 1)))=b1
   generalize (decide (0≤e.2) && decide (e.2≤w64 (g.1 - 1)))=b2
   cases b1
   · rfl
   cases b2
   · rfl
   by_cases h2:e.1≥e.2
   · have:¬ e.1 < e.2:=by omega
     simp [h2,this]
   · have:e.1 < e.2:=by omega
     simp only [yS,zo,h2,this,decide_true,decide_false,wT,z6]
     by_cases h5:i=0
     · subst h5;simp
     · have h6:decide ((i:Int) > 0)=true:=by simp;omega
       have h7:(i == 0)=false:=by simpa using h5
       rw [h6,zq,JG (by omega) hi hl,z9 (d:=(0,0)) (by omega),h7]
       simp only [ze,Ug,ZO]
       cases bef (g.2.getD (i - 1) (0,0)) e <;> rfl
 · intro k;simp [wa,MK]
theorem yE {g:Gr} (h:y0 g=true):0≤g.1∧g.1≤8:=by
 unfold y0 at h
 simp only [zp,ya] at h
 exact h.1
theorem W8 {F:Nat} {l:List Int} {n:Int} (hF:l.length < F) (hl:Sm l.length):vF F l n=some (decide (n∈l)):=by
 unfold vF
 rw [vQ (L:=fun k i=>Y0 F l n k i) (n:=l.length) (p:=fun i=>!(l.getD i 0 == n)) (bad:=some true) (fin:=some false) ?_ ?_ F hF]
 · by_cases h:n∈l
   · have:wG (fun i=>!(l.getD i 0 == n)) l.length=false:=by
      rw [Bool.eq_false_iff];intro h'
      obtain ⟨i,hi,e⟩:=Zk.1 h
      have:=yV.1 h' i hi
      simp [zU,hi,e] at this
     rw [this];simp [h]
   · have:wG (fun i=>!(l.getD i 0 == n)) l.length=true:=by
      rw [yV];intro i hi
      simp only [zU,yW hi,y3,yT,wv]
      intro e;exact h (e ▸ XL hi)
     rw [this];simp [h]
 · intro k i hi
   simp only [Y0]
   rw [z9 (d:=0) hi,yw hi hl]
   have hlt:decide ((i:Int) < l.length)=true:=by simp [hi]
   simp only [hlt,zq,ze]
   cases (l.getD i 0 == n) <;> rfl
 · intro k;simp [Y0]
def wV (n:Int) (l:List Int):Bool:=decide ((l.length:Int)=n) && wG (fun j=>decide ((j:Int)∈l)) n.toNat
theorem QH {F:Nat} {g:Gr} {l:List Int} (h0:0≤g.1) (h8:g.1≤8) (hF:l.length < F) (h9:9≤F) (hl:Sm l.length):WX F g l=some (wV g.1 l):=by
 unfold WX
 obtain ⟨n,hn⟩:∃ n:Nat,g.1=n:=⟨g.1.toNat,by omega⟩
 rw [vQ (L:=fun k i=>Z1 F l g k i) (n:=n) (p:=fun j=>decide ((j:Int)∈l)) (bad:=some false) (fin:=some ((l.length:Int) == n)) ?_ ?_ F (by omega)]
 · unfold wV
   rw [hn]
   simp only [z8]
   cases wG (fun j=>decide ((j:Int)∈l)) n <;> simp
   rfl
 · intro k i hi
   simp only [Z1,W8 hF hl,hn]
   rw [yw hi (by unfold Sm;omega)]
   have hlt:decide ((i:Int) < (n:Int))=true:=by simp [hi]
   simp only [hlt,zq,ze]
   cases decide ((i:Int)∈l) <;> rfl
 · intro k;simp [Z1,hn]
theorem zaG {F:Nat} {l:List Int} {lo hi:Int} (hF:l.length < F) (hl:Sm l.length):uN F l lo hi=some (l.all fun x=>decide (lo≤x) && decide (x≤hi)):=by
 unfold uN
 rw [vQ (L:=fun k i=>wK F lo hi l k i) (n:=l.length) (p:=fun i=>decide (lo≤l.getD i 0) && decide (l.getD i 0≤hi)) (bad:=some false) (fin:=some true) ?_ ?_ F hF]
 · have:wG (fun i=>decide (lo≤l.getD i 0) && decide (l.getD i 0≤hi)) l.length=l.all fun x=>decide (lo≤x) && decide (x≤hi):=by
    rw [yJ,yV,yN]
    constructor
    · intro h x hx
      obtain ⟨i,hi,rfl⟩:=Zk.1 hx
      have:=h i hi
      simpa [zU,hi] using this
    · intro h i hi
      simpa [zU,hi] using h l[i] (XL hi)
   rw [this];cases (l.all fun x=>decide (lo≤x) && decide (x≤hi)) <;> rfl
 · intro k i hi
   simp only [wK,LO]
   rw [z9 (d:=0) hi,yw hi hl]
   have hlt:decide ((i:Int) < l.length)=true:=by simp [hi]
   simp only [hlt,zq,ze]
   cases (decide (lo≤l.getD i 0) && decide (l.getD i 0≤_)) <;> rfl
 · intro k;simp [wK]
theorem zgG {F:Nat} {l:List Int} (hF:l.length < F) (hl:Sm l.length) (h:∀ x∈l,0≤x∧x≤62):∃ m:Nat,W5 F l=some (m:Int)∧zdz m (fun j=>decide ((j:Int)∈l)):=by
 unfold W5
 have key:∃ s:Int,(∃ m:Nat,s=(m:Int)∧m < 9223372036854775808∧∀ j,m.testBit j=decide ((j:Int)∈l.take l.length))∧Zt F l F 0 0=some s:=by
  refine Exists.imp (fun s h=>⟨h.1,h.2.1⟩) (zgC (L:=fun k i s=>Zt F l k s i) (n:=l.length) (fun i s=>∃ m:Nat,s=(m:Int)∧m < 9223372036854775808∧∀ j,m.testBit j=decide ((j:Int)∈l.take i)) (fin:=fun s=>some s)
   (fun i s=>ior .i64 s ((2 ^ (l.getD i 0).toNat:Nat):Int)) ?_ ?_ ?_ F 0 hF ⟨0,rfl,by omega,by simp⟩)
  · rintro k i s hi ⟨m,rfl,hm1,hm2⟩
    simp only [Zt]
    rw [z9 (d:=0) hi,yw hi hl]
    have hlt:decide ((i:Int) < l.length)=true:=by simp [hi]
    simp only [hlt,zq,ze]
    have hx:=h (l.getD i 0) (by rw [zU,yW hi];exact XL hi)
    obtain ⟨x,hx'⟩:∃ x:Nat,l.getD i 0=x:=⟨(l.getD i 0).toNat,by omega⟩
    rw [hx',um (by omega)];simp
  · rintro i s hi ⟨m,rfl,hm1,hm2⟩
    have hx:=h (l.getD i 0) (by rw [zU,yW hi];exact XL hi)
    obtain ⟨x,hx'⟩:∃ x:Nat,l.getD i 0=x:=⟨(l.getD i 0).toNat,by omega⟩
    rw [hx',z8,Wv hm1 (Yt (by omega))]
    refine ⟨_,rfl,Nat.or_lt_two_pow (n:=63) hm1 (Yt (by omega)),fun j=>?_⟩
    rw [vo,hm2,wh,List.take_add_one,yW hi]
    have:l[i]=x:=by rw [← hx',zU,yW hi];rfl
    rw [yJ]
    simp [this]
    constructor
    · rintro (h | h)
      · exact .inl h
      · exact .inr (by omega)
    · rintro (h | h)
      · exact .inl h
      · exact .inr (by omega)
  · rintro k s ⟨m,rfl,hm1,hm2⟩
    simp [Zt]
 obtain ⟨s,⟨m,rfl,hm1,hm2⟩,h2⟩:=key
 exact ⟨m,h2,hm1,by simpa using hm2⟩
theorem M0 {F:Nat} {g:Gr} {l:List Int} (h0:0≤g.1) (h8:g.1≤8) (hF:l.length < F) (hl:Sm l.length):Yh F g l=some (wV g.1 l):=by
 unfold Yh wV
 obtain ⟨n,hn⟩:∃ n:Nat,g.1=n:=⟨g.1.toNat,by omega⟩
 have hw:w64 (g.1 - 1)=g.1 - 1:=vP (by omega) (by omega)
 rw [zaG hF hl,hw,hn]
 by_cases e:l.length=n
 · have e':((l.length:Int) == (n:Int))=true:=by simp [e]
   simp only [e',zq,ze,z8]
   by_cases ha:(l.all fun x=>decide (0≤x) && decide (x≤(n:Int) - 1))=true
   · rw [ha,zq]
     have ha':∀ x∈l,0≤x∧x≤62:=by
      intro x hx;have:=yN.1 ha x hx;simp at this;omega
     obtain ⟨m,hm,hmask⟩:=zgG hF hl ha'
     rw [hm,ze,um (by omega),ze]
     have hw2:w64 (((2 ^ n:Nat):Int) - 1)=((2 ^ n - 1:Nat):Int):=by
      have:=Yt (j:=n) (by omega)
      have:0 < 2 ^ n:=Zg n
      rw [vP (by omega) (by omega)];omega
     rw [hw2]
     congr 1
     rw [yJ]
     have hall:=zd4 (n:=n) (by omega)
     simp only [ym,zp,ya,yV]
     constructor
     · intro h
       have h':m=2 ^ n - 1:=by omega
       refine ⟨by omega,fun j hj=>?_⟩
       have:=hmask.2 j
       rw [h',hall.2] at this
       simpa [hj] using this.symm
     · rintro ⟨_,h⟩
       have:m=2 ^ n - 1:=by
        apply ZN
        intro j
        rw [hmask.2,hall.2]
        by_cases hj:j < n
        · simp [hj,h j hj]
        · simp only [hj,decide_false,decide_eq_false_iff_not]
          intro hm'
          have:=yN.1 ha _ hm'
          simp at this;omega
       rw [this]
   · rw [Bool.not_eq_true] at ha
     rw [ha,zo]
     congr 1
     symm
     rw [Bool.eq_false_iff];intro h
     simp only [zp,ya,yV] at h
     have:=(UY n l h.2).2 e
     have h2:(l.all fun x=>decide (0≤x) && decide (x≤(n:Int) - 1))=true:=by
      rw [yN];intro x hx;have:=this x hx;simp;omega
     rw [ha] at h2;cases h2
 · have e':((l.length:Int) == (n:Int))=false:=by simp;omega
   have e2:decide ((l.length:Int)=(n:Int))=false:=by simp;omega
   rw [e',e2];simp
theorem zfW {F:Nat} {a b:Int}:YG F a b=some (max a b):=by
 unfold YG
 by_cases h:a > b
 · simp [h];omega
 · simp [h];omega
def far (l:List Int) (e:Int×Int):Int:=max ((l.idxOf e.1:Int) - l.idxOf e.2) ((l.idxOf e.2:Int) - l.idxOf e.1)
theorem zmV {n:Int} {es:List (Int×Int)} (h:wG (okE n es) es.length=true) {i:Nat} (hi:i < es.length):0≤(es.getD i (0,0)).1∧(es.getD i (0,0)).1 < (es.getD i (0,0)).2∧(es.getD i (0,0)).2 < n:=by
 have:=yV.1 h i hi
 unfold okE at this
 simp only [zp,ya] at this
 exact ⟨this.1.1.1,this.1.1.2,this.1.2⟩
theorem Kq {g:Gr} (h:y0 g=true) {i:Nat} (hi:i < g.2.length):0≤(g.2.getD i (0,0)).1∧(g.2.getD i (0,0)).1 < (g.2.getD i (0,0)).2∧(g.2.getD i (0,0)).2 < g.1:=by
 unfold y0 at h
 simp only [zp] at h
 exact zmV h.2 hi
theorem LX {n:Int} {l:List Int} (h:wV n l=true) {x:Int} (h0:0≤x) (hx:x < n):x∈l:=by
 unfold wV at h
 simp only [zp,yV,ya] at h
 have:=h.2 x.toNat (by omega)
 rwa [Int.toNat_of_nonneg h0] at this
theorem ve {n:Int} {l:List Int} (h:wV n l=true):(l.length:Int)=n:=by
 unfold wV at h
 simp only [zp,ya] at h
 exact h.1
theorem LP {α:Type} {xs:List α} {i j:Nat} {a d:α} (hi:i < xs.length):(xs.set i a).getD j d=if i=j then a else xs.getD j d:=by
 rw [zU,List.getElem?_set,zU]
 split
 · rename_i e;subst e;simp [hi]
 · rfl
def par (ps:List Int) (x:Int):Int:=ps.getD x.toNat (-1)
def zmR (ps:List Int):Nat→Int→List Int
 | 0,_=>[]
 | d + 1,x=>if 0≤par ps x then par ps x :: zmR ps d (par ps x) else []
def zxX (n:Nat) (ps:List Int) (x:Int):Bool:=decide ((zmR ps (n + 1) x).length < n)
def mkm (p:Nat→Bool):Nat→Nat
 | 0=>0
 | n + 1=>mkm p n ||| (if p n then 2 ^ n else 0)
theorem yA {p:Nat→Bool}:∀ (n j:Nat),(mkm p n).testBit j=(decide (j < n) && p j)
 | 0,j=>by simp [mkm]
 | n + 1,j=>by
   rw [mkm,vo,yA n j]
   by_cases hp:p n=true
   · rw [if_pos hp,wh]
     by_cases e:n=j
     · subst e;simp [hp]
     · have h1:decide (n=j)=false:=by simpa using e
       have h2:decide (j < n + 1)=decide (j < n):=by
        rw [yJ];simp;omega
       rw [h1,h2];simp
   · rw [zy hp,Za]
     rw [Bool.not_eq_true] at hp
     by_cases e:n=j
     · subst e;simp [hp]
     · have h2:decide (j < n + 1)=decide (j < n):=by
        rw [yJ];simp;omega
       rw [h2];simp
theorem JX {p:Nat→Bool} {n:Nat}:mkm p n < 2 ^ n:=by
 apply Nat.lt_pow_two_of_testBit
 intro j hj
 rw [yA]
 have:decide (j < n)=false:=by simp;omega
 rw [this];rfl
theorem xB {p:Nat→Bool} {n:Nat} (h:n≤62):mkm p n < 9223372036854775808:=Nat.lt_trans JX (Yt h)
theorem wI {p q:Nat→Bool} {n:Nat} (h:∀ j,j < n→p j=q j):mkm p n=mkm q n:=by
 apply ZN;intro j
 rw [yA,yA]
 by_cases hj:j < n
 · rw [h j hj]
 · simp [hj]
theorem vT {p:Nat→Bool} {n m:Nat} (hm:∀ j,m.testBit j=(decide (j < n) && p j)):m=mkm p n:=by
 apply ZN;intro j;rw [hm,yA]
def uY (g:Gr) (a b:Nat) (i:Nat):Bool:=((g.2.getD i (0,0)).1 == (a:Int) && (g.2.getD i (0,0)).2 == (b:Int)) || ((g.2.getD i (0,0)).1 == (b:Int) && (g.2.getD i (0,0)).2 == (a:Int))
def adj (g:Gr) (a b:Nat):Bool:=ZU (uY g a b) g.2.length
theorem zdK {g:Gr} {a b i:Nat}:uY g a b i=uY g b a i:=by unfold uY;rw [Bool.or_comm]
theorem Xm {g:Gr} {a b:Nat}:adj g a b=adj g b a:=KY fun _ _=>zdK
theorem Un {g:Gr} (hg:y0 g=true) {a b:Nat} (h:adj g a b=true):(a:Int) < g.1∧(b:Int) < g.1∧a≠b:=by
 unfold adj at h
 obtain ⟨i,hi,h⟩:=xN.1 h
 obtain ⟨e1,e2,e3⟩:=Kq hg hi
 unfold uY at h
 simp only [y8,zp,ym] at h
 omega
theorem zfN {F:Nat} {g:Gr} {a b:Nat} (hF:g.2.length < F) (hs:Sm g.2.length):Xl F g (a:Int) (b:Int)=some (adj g a b):=by
 unfold Xl
 rw [vQ (L:=fun k i=>wb F (a:Int) (b:Int) g k i) (n:=g.2.length) (p:=fun i=>!uY g a b i) (bad:=some true) (fin:=some false) ?_ ?_ F hF]
 · unfold adj;rw [Jw];cases wG (fun i=>!uY g a b i) g.2.length <;> rfl
 · intro k i hi
   simp only [wb,Zo]
   rw [z9 (d:=(0,0)) hi,yw hi hs]
   have hlt:decide ((i:Int) < g.2.length)=true:=by simp [hi]
   rw [hlt,zq,ze]
   unfold uY
   generalize g.2.getD i (0,0)=e
   generalize (e.1 == (a:Int))=b1
   generalize (e.2 == (b:Int))=b2
   generalize (e.1 == (b:Int))=b3
   generalize (e.2 == (a:Int))=b4
   cases b1 <;> cases b2 <;> cases b3 <;> cases b4 <;> rfl
 · intro k;simp [wb]
def wM (g:Gr):List Int:=(List.range g.1.toNat).map fun x=>((mkm (adj g x) g.1.toNat:Nat):Int)
theorem ZI {g:Gr}:(wM g).length=g.1.toNat:=by simp [wM]
theorem Mb {g:Gr} {x:Nat} (h:x < g.1.toNat):(wM g).getD x 0=((mkm (adj g x) g.1.toNat:Nat):Int):=by
 simp [wM,zU,h]
theorem Lt {F:Nat} {g:Gr} (hg:y0 g=true) (hF:g.2.length < F) (hs:Sm g.2.length):ZX F g=some ⟨wM g⟩:=by
 have h8:=yE hg
 obtain ⟨n,hn⟩:∃ n:Nat,g.1=n:=⟨g.1.toNat,by omega⟩
 unfold ZX
 rw [hn,zbs (by omega),ze]
 refine ZD (L:=fun k i s=>Y2 F g k s i) (n:=g.2.length) (fun i w=>w.length=n∧∀ x,x < n→∃ m:Nat,w.getD x 0=(m:Int)∧zdz m (fun j=>ZU (uY g x j) i)) ?_ ?_ F _ hF ?_
 · intro k i w hi ⟨hl,hw⟩
   obtain ⟨e1,e2,e3⟩:=Kq hg hi
   simp only [Y2]
   rw [z9 (d:=(0,0)) hi,yw hi hs]
   have hlt:decide ((i:Int) < g.2.length)=true:=by simp [hi]
   rw [hlt,zq,ze]
   obtain ⟨a,ha⟩:∃ a:Nat,(g.2.getD i (0,0)).1=a:=⟨(g.2.getD i (0,0)).1.toNat,by omega⟩
   obtain ⟨b,hb⟩:∃ b:Nat,(g.2.getD i (0,0)).2=b:=⟨(g.2.getD i (0,0)).2.toNat,by omega⟩
   have hj:∀ x j,uY g x j i=((x == a && j == b) || (x == b && j == a)):=by
    intro x j
    unfold uY
    rw [ha,hb,yJ]
    simp
    omega
   rw [ha] at e1 e2 ⊢
   rw [hb] at e2 e3 ⊢
   obtain ⟨ma,hma,hma2⟩:=hw a (by omega)
   obtain ⟨mb,hmb,hmb2⟩:=hw b (by omega)
   have ia:idx w (a:Int)=some (ma:Int):=by rw [z9 (d:=0) (by omega),hma]
   rw [ia,ze,um (by omega),ze,ze,Wv hma2.1 (Yt (by omega)),z8]
   have ib:idx (w.set a ((ma ||| 2 ^ b:Nat):Int)) (b:Int)=some (mb:Int):=by
    rw [z9 (d:=0) (by simp;omega),LP (by omega),zy (by omega),hmb]
   rw [ib,ze,um (by omega),ze,ze,Wv hmb2.1 (Yt (by omega)),z8]
   refine ⟨_,⟨by simp [hl],?_⟩,rfl⟩
   intro x hx
   rw [LP (by simp;omega),LP (by omega)]
   by_cases exb:b=x
   · subst exb
     rw [if_pos rfl]
     refine ⟨_,rfl,Nat.or_lt_two_pow (n:=63) hmb2.1 (Yt (by omega)),fun j=>?_⟩
     rw [vo,hmb2.2,wh]
     show (ZU (uY g b j) i || decide (a=j))=(ZU (uY g b j) i || uY g b j i)
     rw [hj]
     congr 1
     rw [yJ];simp;omega
   · rw [zy exb]
     by_cases exa:a=x
     · subst exa
       rw [if_pos rfl]
       refine ⟨_,rfl,Nat.or_lt_two_pow (n:=63) hma2.1 (Yt (by omega)),fun j=>?_⟩
       rw [vo,hma2.2,wh]
       show (ZU (uY g a j) i || decide (b=j))=(ZU (uY g a j) i || uY g a j i)
       rw [hj]
       congr 1
       rw [yJ];simp;omega
     · rw [zy exa]
       obtain ⟨m,h1,h2⟩:=hw x hx
       refine ⟨m,h1,h2.1,fun j=>?_⟩
       rw [h2.2]
       show ZU (uY g x j) i=(ZU (uY g x j) i || uY g x j i)
       have:uY g x j i=false:=by
        rw [hj,Bool.eq_false_iff];intro h;simp at h;omega
       rw [this,Yp]
 · intro k w ⟨hl,hw⟩
   simp only [Y2]
   have hlt:decide ((g.2.length:Int) < g.2.length)=false:=by simp
   rw [hlt,zo]
   have:w=wM g:=by
    apply List.ext_getElem (by rw [hl,ZI,hn];simp)
    intro x h1 h2
    obtain ⟨m,h3,h4⟩:=hw x (by omega)
    have h5:=Mb (g:=g) (x:=x) (by rw [ZI] at h2;exact h2)
    rw [zU,yW h1] at h3
    rw [zU,yW h2] at h5
    simp at h3 h5
    rw [h3,h5]
    congr 1
    refine vT fun j=>?_
    rw [h4.2,hn,z8]
    by_cases hj:j < n
    · simp [hj,adj]
    · have:adj g x j=false:=by
       rw [Bool.eq_false_iff];intro h;have:=Un hg h;omega
      simp only [hj,decide_false,ux];exact this
   rw [this]
 · refine ⟨by simp,fun x hx=>⟨0,by simp [zU,hx],by omega,fun j=>by simp [ZU]⟩⟩
def J6 (g:Gr) (p:Nat→Bool) (j:Nat):Bool:=p j || ZU (fun x=>p x && adj g x j) g.1.toNat
theorem Ki {F:Nat} {g:Gr} {p:Nat→Bool} (hg:y0 g=true) (hF:9≤F) :
    uJ F ⟨wM g⟩ ((mkm p g.1.toNat:Nat):Int)=some ((mkm (J6 g p) g.1.toNat:Nat):Int):=by
 have h8:=yE hg
 obtain ⟨n,hn⟩:∃ n:Nat,g.1=n:=⟨g.1.toNat,by omega⟩
 unfold uJ
 refine ZD (L:=fun k i s=>wo F ((mkm p g.1.toNat:Nat):Int) ⟨wM g⟩ k s i) (n:=n) (fun i s=>s=((mkm (fun j=>p j || ZU (fun x=>p x && adj g x j) i) n:Nat):Int)) ?_ ?_ F _ (by omega) ?_
 · intro k i s hi hs
   subst hs
   simp only [wo,ZF]
   have hnn:g.1.toNat=n:=by omega
   have hlt:decide ((i:Int) < ((wM g).length:Int))=true:=by rw [ZI];simp;omega
   rw [hlt,zq,z9 (d:=0) (by rw [ZI];omega),ze,Mb (by omega),hnn]
   obtain ⟨q,hq,hq1,_⟩:=zby (m:=mkm p n) (j:=i) (xB (by omega)) (by omega)
   rw [hq,ze,hq1,yA,yw hi (by unfold Sm;omega)]
   have hd:decide (i < n)=true:=by simp [hi]
   rw [hd,z6]
   cases hp:p i with
   | true=>
     rw [zq,Wv (xB (by omega)) (xB (by omega))]
     refine ⟨_,?_,rfl⟩
     congr 1
     refine vT fun j=>?_
     rw [vo,yA,yA]
     simp only [ZU,hp,z6]
     cases decide (j < n) <;> simp [Bool.or_assoc]
   | false=>
     rw [zo]
     refine ⟨_,?_,rfl⟩
     congr 1
     refine wI fun j _=>?_
     simp [ZU,hp]
 · intro k s hs
   subst hs
   simp only [wo]
   have hlt:decide ((n:Int) < ((wM g).length:Int))=false:=by rw [ZI];simp;omega
   rw [hlt,zo]
   have hnn:g.1.toNat=n:=by omega
   unfold J6
   rw [hnn]
 · have hnn:g.1.toNat=n:=by omega
   rw [hnn]
   congr 1
   refine wI fun j _=>?_
   simp [ZU]
def xC (p:Nat→Bool) (n:Nat):Nat:=(List.range n).countP p
theorem Yf {p q:Nat→Bool} {n:Nat} (h:∀ j,j < n→p j=q j):xC p n=xC q n:=by
 unfold xC
 apply List.countP_congr
 intro x hx
 rw [h x (by simpa using hx)]
def zlC (m:Nat):Nat:=xC m.testBit 8
theorem ziG:∀ m:Nat,m < 256→vw 0 (Kd.mk (IntKind.u64.wrap (m:Int)):Kd .u64)=some (zlC m:Int):=by decide +kernel
theorem za6 {F m:Nat} (h:m < 256):vw F (Kd.mk (IntKind.u64.wrap (m:Int)):Kd .u64)=some (zlC m:Int):=ziG m h
theorem Nx {p:Nat→Bool} {n:Nat} (hn:n≤8):zlC (mkm p n)=xC p n:=by
 unfold zlC
 have h1:xC (mkm p n).testBit 8=xC (fun j=>decide (j < n) && p j) 8:=Yf fun j _=>yA n j
 rw [h1]
 unfold xC
 have:List.range 8=List.range n++(List.range (8 - n)).map (n + ·):=by
  have:=@List.range_add n (8 - n)
  rwa [show n + (8 - n)=8 by omega] at this
 rw [this,List.countP_append]
 have h2:((List.range (8 - n)).map (n + ·)).countP (fun j=>decide (j < n) && p j)=0:=by
  rw [List.countP_eq_zero]
  intro x hx
  simp at hx
  obtain ⟨y,_,rfl⟩:=hx
  have:¬ n + y < n:=by omega
  simp only [this,decide_false,ux,yD,not_false_eq_true]
 rw [h2,Nat.add_zero]
 apply List.countP_congr
 intro x hx
 simp at hx
 simp [hx]
theorem MW {p:Nat→Bool} {n:Nat} (hn:n≤8):mkm p n < 256:=by
 have:=JX (p:=p) (n:=n)
 have:=vG (n:=2) (by decide) hn
 omega
def yn (p:Nat→Bool) (n:Nat):List Int:=((List.range n).filter p).map fun (j:Nat)=>(j:Int)
theorem xL {p:Nat→Bool} {n:Nat}:(yn p n).length=xC p n:=by
 simp [yn,xC,List.countP_eq_length_filter]
theorem XI {p:Nat→Bool} {n:Nat}:yn p (n + 1)=yn p n++(if p n then [(n:Int)] else []):=by
 simp only [yn,ZH,List.filter_append,List.map_append]
 by_cases h:p n=true
 · simp [h]
 · rw [Bool.not_eq_true] at h;simp [h]
theorem zcP {p q:Nat→Bool} {n:Nat} (h:∀ j,j < n→p j=q j):yn p n=yn q n:=by
 unfold yn
 congr 1
 apply List.filter_congr
 intro x hx
 exact h x (by simpa using hx)
theorem ur {p:Nat→Bool} {n:Nat}:xC p n≤n:=by
 have:=List.countP_le_length (p:=p) (l:=List.range n)
 unfold xC;simpa using this
theorem LZ:∀ (n:Nat) (l:List Int),l.Nodup→(∀ x∈l,0≤x∧x < n)→xC (fun j=>decide ((j:Int)∈l)) n=l.length
 | 0,l,_,h=>by
   cases l with
   | nil=>rfl
   | cons x l=>have:=h x (by simp);omega
 | n + 1,l,hn,h=>by
   have hs:∀ x∈l.erase (n:Int),0≤x∧x < n:=by
    intro x hx
    have h1:=(hn.mem_erase_iff).1 hx
    have:=h x h1.2
    omega
   have ih:=LZ n (l.erase (n:Int)) (hn.erase _) hs
   have hc:xC (fun j=>decide ((j:Int)∈l.erase (n:Int))) n=xC (fun j=>decide ((j:Int)∈l)) n:=by
    apply Yf
    intro j hj
    rw [yJ]
    simp only [ya]
    rw [List.mem_erase_of_ne (by omega)]
   rw [hc] at ih
   unfold xC at *
   rw [ZH,List.countP_append,ih]
   by_cases hm:(n:Int)∈l
   · rw [List.length_erase_of_mem hm]
     have:=List.length_pos_of_mem hm
     simp [hm];omega
   · rw [List.erase_of_not_mem hm]
     simp [hm]
def Srt (l:List Int):Prop:=l.Pairwise (· < ·)
theorem zfI:∀ (a b:List Int),Srt a→Srt b→(∀ y,y∈a↔y∈b)→a=b
 | [],[],_,_,_=>rfl
 | [],y :: b,_,_,h=>by have:=(h y).2 (by simp);cases this
 | x :: a,[],_,_,h=>by have:=(h x).1 (by simp);cases this
 | x :: a,y :: b,ha,hb,h=>by
   unfold Srt at ha hb
   rw [List.pairwise_cons] at ha hb
   have e:x=y:=by
    have h1:=(h x).1 (by simp)
    have h2:=(h y).2 (by simp)
    rcases yf.1 h1 with e | h1
    · exact e
    · rcases yf.1 h2 with e | h2
      · exact e.symm
      · have:=ha.1 y h2;have:=hb.1 x h1;omega
   subst e
   congr 1
   refine zfI a b ha.2 hb.2 fun y=>?_
   have:=h y
   simp only [yf] at this
   constructor
   · intro hy
     rcases this.1 (.inr hy) with e | h'
     · have:=ha.1 y hy;omega
     · exact h'
   · intro hy
     rcases this.2 (.inr hy) with e | h'
     · have:=hb.1 y hy;omega
     · exact h'
theorem Zd {p:Nat→Bool} {n:Nat} {y:Int}:y∈yn p n↔∃ j:Nat,y=j∧j < n∧p j=true:=by
 unfold yn
 simp only [yX,List.mem_filter,Y4]
 constructor
 · rintro ⟨j,⟨h1,h2⟩,rfl⟩;exact ⟨j,rfl,h1,h2⟩
 · rintro ⟨j,rfl,h1,h2⟩;exact ⟨j,⟨h1,h2⟩,rfl⟩
theorem Ky {p:Nat→Bool} {n:Nat}:Srt (yn p n):=by
 unfold Srt yn
 rw [List.pairwise_map]
 have h1:(List.range n).Pairwise (· < ·):=List.pairwise_lt_range
 exact (List.Pairwise.filter _ h1).imp fun h=>by omega
theorem Qc {l:List Int} {p:Nat→Bool} {n:Nat} (h:Srt l) (hm:∀ y,y∈l↔∃ j:Nat,y=j∧j < n∧p j=true):l=yn p n:=
 zfI _ _ h Ky fun y=>(hm y).trans Zd.symm
def zoo (f:Nat→Nat):Nat→Nat
 | 0=>0
 | n + 1=>zoo f n + f n
theorem Ln {p:Nat→Bool}:∀ {n:Nat},xC p n=zoo (fun j=>if p j then 1 else 0) n
 | 0=>rfl
 | n + 1=>by
   have:xC p (n + 1)=xC p n + (if p n then 1 else 0):=by
    unfold xC
    rw [ZH,List.countP_append]
    by_cases h:p n=true <;> simp [h]
   rw [this,Ln (n:=n)];rfl
theorem NA {m i:Nat} (hi:i≤64):Um .i64 (m:Int) (i:Int)=some ((m / 2 ^ i:Nat):Int):=by
 rw [zf5,Nat.min_eq_left hi]
theorem NH {F n:Nat} {p:Nat→Bool} (hn:n≤8) (hF:20≤F):Xp F ((mkm p n:Nat):Int)=some (yn p n):=by
 have key:∀ d k i (l:NL Int),i + d=n→d < k→l.list=yn p i→vO F ((mkm p n:Nat):Int) k l (i:Int)=some (yn p n):=by
  intro d
  induction d with
  | zero=>
    intro k i l hi hk hl
    obtain ⟨k,rfl⟩:∃ k',k=k' + 1:=⟨k - 1,by omega⟩
    obtain rfl:i=n:=by omega
    simp only [vO]
    rw [NA (by omega),ze,Nat.div_eq_of_lt JX,hl];rfl
  | succ d ih=>
    intro k i l hi hk hl
    obtain ⟨k,rfl⟩:∃ k',k=k' + 1:=⟨k - 1,by omega⟩
    simp only [vO,XM]
    rw [NA (by omega),ze]
    have hw:w64 ((i:Int) + 1)=((i + 1:Nat):Int):=yw (n:=n) (by omega) (by unfold Sm;omega)
    by_cases hz:mkm p n / 2 ^ i=0
    · have:(((mkm p n / 2 ^ i:Nat):Int) != 0)=false:=by rw [hz];rfl
      rw [this,zo,hl]
      have hlt:mkm p n < 2 ^ i:=by
       rcases Nat.div_eq_zero_iff.1 hz with h | h
       · have:=Zg i;omega
       · exact h
      have hp:∀ j,i≤j→j < n→p j=false:=by
       intro j h1 h2
       have hb:=yA (p:=p) n j
       have:(mkm p n).testBit j=false:=Nat.testBit_lt_two_pow (Yj hlt (vG (by decide) h1))
       rw [this] at hb
       simpa [h2] using hb.symm
      have:∀ e,i + e≤n→yn p (i + e)=yn p i:=by
       intro e
       induction e with
       | zero=>intro _;rfl
       | succ e ihe=>intro he;rw [show i + (e + 1)=(i + e) + 1 by omega,XI,hp (i + e) (by omega) (by omega),ihe (by omega)];simp
      have h3:=this (n - i) (by omega)
      rw [show i + (n - i)=n by omega] at h3
      rw [h3]
    · have:(((mkm p n / 2 ^ i:Nat):Int) != 0)=true:=by
       rw [bne_iff_ne];intro h;exact hz (by exact_mod_cast h)
      rw [this,zq]
      obtain ⟨q,hq,hq1,_⟩:=zby (m:=mkm p n) (j:=i) (xB (by omega)) (by omega)
      have hd:decide (i < n)=true:=zw (by omega)
      have hq':((mkm p n / 2 ^ i:Nat):Int)=q:=Option.some.inj (by rw [← NA (by omega),hq])
      rw [ze,hq',hq1,yA,hd,z6,hw]
      have hc:=ur (p:=p) (n:=i)
      have hs:=XI (p:=p) (n:=i)
      cases hp:p i with
      | true=>
        rw [zq,hl,YJ (by rw [xL];omega),ze]
        refine ih k (i + 1) _ (by omega) (by omega) ?_
        rw [hs,hp];rfl
      | false=>
        rw [zo]
        refine ih k (i + 1) _ (by omega) (by omega) ?_
        rw [hs,hp,hl];simp
 unfold Xp
 exact key n F 0 .nil (by omega) (by omega) rfl
/-! the number of edges that leave a set,counted by edges and by nodes -/
def wN (l:List Int) (i:Nat) (j:Nat):Bool:=decide ((j:Int)∈l.take i)
theorem X4 {l:List Int} {i x:Nat} (hi:i < l.length) (hx:l.getD i 0=(x:Int)):∀ j,wN l (i + 1) j=(wN l i j || j == x):=by
 intro j
 unfold wN
 rw [List.take_add_one,yW hi,yJ]
 have:l[i]=(x:Int):=by rw [← hx,zU,yW hi];rfl
 have h2:((j:Int)=(x:Int))↔j=x:=by omega
 simp [this,h2]
theorem Ks {p:Nat→Bool} {n i:Nat} (hi:i < (yn p n).length):∃ j:Nat,(yn p n).getD i 0=j∧j < n∧p j=true:=Zd.1 (vS hi)
theorem zkb {l:List Int} (h:Srt l) {i j:Nat} (hij:i < j) (hj:j < l.length):l.getD i 0 < l.getD j 0:=by
 have:=Lc.1 h i j (by omega) hj hij
 rw [zU,yW (by omega),zU,yW hj]
 exact this
def uk (l:List Int) (x:Int):Nat:=l.findIdx fun y=>!decide (y < x)
theorem zcU {l:List Int} {x:Int} {j:Nat} (hj:j < uk l x) (hl:j < l.length):l.getD j 0 < x:=by
 have:=List.not_of_lt_findIdx (p:=fun y=>!decide (y < x)) (xs:=l) hj
 rw [zU,yW hl]
 simpa using this
theorem zcL {l:List Int} {x:Int} (h:uk l x < l.length):¬ l.getD (uk l x) 0 < x:=by
 have:=List.findIdx_getElem (p:=fun y=>!decide (y < x)) (xs:=l) (w:=h)
 rw [zU,yW h]
 intro hlt
 simp only [y3] at hlt
 have e:l[List.findIdx (fun y=>!decide (y < x)) l] < x:=hlt
 rw [zw e] at this
 cases this
theorem zje {l:List Int} {x:Int}:uk l x≤l.length:=List.findIdx_le_length
theorem Le {α:Type} {xs:List α} {i:Nat} (h:i≤xs.length):sub xs (i:Int) (xs.length:Int)=some (xs.drop i):=by
 unfold sub
 rw [if_pos ⟨by omega,by omega,by omega⟩]
 simp only [z8]
 rw [List.take_of_length_le (by simp)]
theorem Ly {α:Type} {xs:List α} {i:Nat} (h:i≤xs.length):sub xs 0 (i:Int)=some (xs.take i):=by
 unfold sub
 rw [if_pos ⟨by omega,by omega,by omega⟩]
 simp
theorem ND {α:Type} {xs ys:List α} (h:xs.length + ys.length≤1099511627776):vh xs ys=some (xs++ys):=by
 unfold vh
 rw [if_pos]
 have:(2:Nat) ^ 40=1099511627776:=by decide
 omega
def zgo (l:List Int) (x:Int):List Int:=if uk l x < l.length∧l.getD (uk l x) 0=x then l else l.take (uk l x)++[x]++l.drop (uk l x)
theorem zlz {F:Nat} {l:List Int} {x:Int} (hF:l.length < F) (hl:l.length≤1000):XZ F l x=some (zgo l x):=by
 unfold XZ
 have hle:=zje (l:=l) (x:=x)
 refine MF (L:=fun k i=>uW F l x k i) (n:=uk l x) ?_ ?_ F (by omega)
 · intro k i hi
   simp only [uW,XO]
   have hlt:decide ((i:Int) < (l.length:Int))=true:=zw (by omega)
   have hx:=zcU hi (by omega)
   rw [hlt,zq,z9 (d:=0) (by omega),ze,zw hx,zq,yw hi (by unfold Sm;omega)]
 · intro k
   have hfin:XS F l x (uk l x:Int) false=some (l.take (uk l x)++[x]++l.drop (uk l x)):=by
    unfold XS
    rw [zo,Ly hle,ze,ND (by simp;omega),ze,ND (by simp;omega),ze,Le hle,ze,ND (by simp;omega),ze]
    simp
   unfold zgo
   simp only [uW,XO]
   by_cases h:uk l x < l.length
   · have hlt:decide ((uk l x:Int) < (l.length:Int))=true:=zw (by omega)
     have hx:=zcL h
     rw [hlt,zq,z9 (d:=0) h,ze,zI hx,zo,zq,ze]
     by_cases e:l.getD (uk l x) 0=x
     · have:(l.getD (uk l x) 0 == x)=true:=by simpa using e
       rw [this,if_pos ⟨h,e⟩];rfl
     · have:(l.getD (uk l x) 0 == x)=false:=by rw [wv];exact e
       rw [this,zy (fun h=>e h.2)];exact hfin
   · have hlt:decide ((uk l x:Int) < (l.length:Int))=false:=zI (by omega)
     rw [hlt,zo,zo,zo,zy (fun h'=>h h'.1)];exact hfin
theorem zh1 {l:List Int} {x y:Int}:y∈zgo l x↔y∈l∨y=x:=by
 unfold zgo
 split
 · rename_i h
   constructor
   · exact .inl
   · rintro (h' | h')
     · exact h'
     · rw [h',← h.2];exact vS h.1
 · have:y∈l↔y∈l.take (uk l x)∨y∈l.drop (uk l x):=by
    rw [← zO,Y5]
   rw [this]
   simp only [zO,xo]
   constructor
   · rintro ((h | h) | h)
     · exact .inl (.inl h)
     · exact .inr h
     · exact .inl (.inr h)
   · rintro ((h | h) | h)
     · exact .inl (.inl h)
     · exact .inr h
     · exact .inl (.inr h)
theorem zjl {l:List Int} {x:Int} (h:Srt l):Srt (zgo l x):=by
 unfold zgo
 split
 · exact h
 · rename_i hn
   have ht:∀ y∈l.take (uk l x),y < x:=by
    intro y hy
    obtain ⟨i,hi,rfl⟩:=Zk.1 hy
    have hi':i < uk l x∧i < l.length:=by simp at hi;omega
    have:=zcU hi'.1 hi'.2
    rw [zU,yW hi'.2] at this
    simpa using this
   have hd:∀ y∈l.drop (uk l x),x < y:=by
    intro y hy
    obtain ⟨i,hi,rfl⟩:=Zk.1 hy
    have hi':uk l x + i < l.length:=by simp at hi;omega
    have h1:=zcL (l:=l) (x:=x) (by omega)
    have h2:l.getD (uk l x) 0≠x:=fun e=>hn ⟨by omega,e⟩
    have h3:l.getD (uk l x) 0≤l.getD (uk l x + i) 0:=by
     by_cases e:i=0
     · subst e;exact Int.le_refl _
     · exact Int.le_of_lt (zkb h (by omega) hi')
    have h4:l.getD (uk l x + i) 0=(l.drop (uk l x))[i]:=by
     rw [List.getElem_drop,zU,yW hi'];rfl
    omega
   unfold Srt at h ⊢
   have h0:(l.take (uk l x)++l.drop (uk l x)).Pairwise (· < ·):=by rw [Y5];exact h
   rw [List.pairwise_append] at h0
   rw [WF,List.pairwise_append]
   refine ⟨h0.1,?_,?_⟩
   · rw [List.singleton_append,List.pairwise_cons]
     exact ⟨hd,h0.2.1⟩
   · intro a ha b hb
     rw [List.singleton_append,yf] at hb
     rcases hb with rfl | hb
     · exact ht a ha
     · exact h0.2.2 a ha b hb
theorem ziV {F n x:Nat} {p:Nat→Bool} (hn:n≤8) (hx:x < n) (hF:20≤F):XZ F (yn p n) (x:Int)=some (yn (fun j=>p j || j == x) n):=by
 have hc:=ur (p:=p) (n:=n)
 rw [zlz (by rw [xL];omega) (by rw [xL];omega)]
 congr 1
 refine Qc (zjl Ky) fun y=>?_
 rw [zh1,Zd]
 constructor
 · rintro (⟨j,rfl,h1,h2⟩ | rfl)
   · exact ⟨j,rfl,h1,by simp [h2]⟩
   · exact ⟨x,rfl,hx,by simp⟩
 · rintro ⟨j,rfl,h1,h2⟩
   simp only [y8,ym] at h2
   rcases h2 with h2 | h2
   · exact .inl ⟨j,rfl,h1,h2⟩
   · exact .inr (by omega)
theorem Kj {F n:Nat} {p:Nat→Bool} {x:Nat} (hn:n≤8) (hx:x < n) (hF:20≤F):vF F (yn p n) (x:Int)=some (p x):=by
 have hc:=ur (p:=p) (n:=n)
 rw [W8 (by rw [xL];omega) (by rw [xL];unfold Sm;omega)]
 congr 1
 rw [yJ,ya,Zd]
 constructor
 · rintro ⟨j,h1,_,h3⟩;obtain rfl:x=j:=by omega
   exact h3
 · exact fun h=>⟨x,rfl,hx,h⟩
theorem zlo {F n code:Nat} (hn:n≤8) (hc:code < 9223372036854775808) (hF:20≤F):zcJ F (n:Int) (code:Int)=some (yn code.testBit n):=by
 unfold zcJ
 refine ZD (L:=fun k i s=>uP F (n:Int) (code:Int) k s i) (n:=n) (fun i s=>s=yn code.testBit i) ?_ ?_ F _ (by omega) rfl
 · intro k i s hi hI
   subst hI
   refine ⟨_,rfl,?_⟩
   simp only [uP,Uk]
   have hlt:decide ((i:Int) < (n:Int))=true:=zw (by omega)
   obtain ⟨q,hq,hq1,_⟩:=zby (m:=code) (j:=i) hc (by omega)
   have hcl:=ur (p:=code.testBit) (n:=i)
   rw [hlt,zq,hq,ze,hq1,yw hi (by unfold Sm;omega),XI]
   cases code.testBit i with
   | true=>rw [zq,YJ (by rw [xL];omega),ze];rfl
   | false=>rw [zo];simp
 · intro k s hI
   subst hI
   simp only [uP]
   have hlt:decide ((n:Int) < (n:Int))=false:=zI (by omega)
   rw [hlt,zo]
def stp (g:Gr) (p q:Nat→Bool) (j:Nat):Bool:=q j || (p j && ZU (fun y=>q y && adj g y j) g.1.toNat)
def rch (g:Gr) (p:Nat→Bool) (x:Nat):Nat→Nat→Bool
 | 0=>fun j=>j == x
 | t + 1=>stp g p (rch g p x t)
def xw (g:Gr) (p:Nat→Bool) (x:Nat):Nat→Bool:=rch g p x g.1.toNat
theorem Jp {g:Gr} {p q:Nat→Bool} {j:Nat}:stp g p q j=true↔q j=true∨(p j=true∧∃ y,y < g.1.toNat∧q y=true∧adj g y j=true):=by
 unfold stp
 rw [y8,zp,xN]
 constructor
 · rintro (h | ⟨h,y,h1,h2⟩)
   · exact .inl h
   · rw [zp] at h2;exact .inr ⟨h,y,h1,h2.1,h2.2⟩
 · rintro (h | ⟨h,y,h1,h2,h3⟩)
   · exact .inl h
   · exact .inr ⟨h,y,h1,by rw [h2,h3];rfl⟩
theorem X9 {g:Gr} {p:Nat→Bool} {x t j:Nat} (h:rch g p x t j=true):∀ s,t≤s→rch g p x s j=true:=by
 intro s hs
 induction s with
 | zero=>obtain rfl:t=0:=by omega
         exact h
 | succ s ih=>
   by_cases e:t=s + 1
   · subst e;exact h
   · exact Jp.2 (.inl (ih (by omega)))
theorem LK {g:Gr} {p:Nat→Bool} {x:Nat} (hx:p x=true):∀ t j,rch g p x t j=true→p j=true
 | 0,j,h=>by
   have:j=x:=by simpa [rch] using h
   subst this;exact hx
 | t + 1,j,h=>by
   rcases Jp.1 h with h | h
   · exact LK hx t j h
   · exact h.1
theorem N1 {g:Gr} (hg:y0 g=true) {p:Nat→Bool} {x:Nat} (hx:x < g.1.toNat):∀ t j,rch g p x t j=true→j < g.1.toNat
 | 0,j,h=>by
   have:j=x:=by simpa [rch] using h
   subst this;exact hx
 | t + 1,j,h=>by
   rcases Jp.1 h with h | ⟨_,y,_,_,h⟩
   · exact N1 hg hx t j h
   · have:=Un hg h
     have:=yE hg
     omega
theorem zat {g:Gr} {p C:Nat→Bool} {x:Nat} (hx:C x=true) (hC:∀ y j,C y=true→p j=true→adj g y j=true→C j=true):∀ t j,rch g p x t j=true→C j=true
 | 0,j,h=>by
   have:j=x:=by simpa [rch] using h
   subst this;exact hx
 | t + 1,j,h=>by
   rcases Jp.1 h with h | ⟨h1,y,_,h2,h3⟩
   · exact zat hx hC t j h
   · exact hC y j (zat hx hC t y h2) h1 h3
theorem Wk {p q:Nat→Bool}:∀ {n:Nat},(∀ j,j < n→p j=true→q j=true)→(∃ j,j < n∧p j=false∧q j=true)→xC p n + 1≤xC q n
 | 0,_,⟨_,h,_⟩=>by omega
 | n + 1,h,⟨j,hj,h1,h2⟩=>by
   rw [Ln,Ln]
   simp only [zoo]
   rw [← Ln,← Ln]
   by_cases e:j=n
   · subst e
     have hle:xC p j≤xC q j:=by
      unfold xC
      apply List.countP_mono_left
      intro x hx
      exact h x (by have:=Y4.1 hx;omega)
     rw [h1,h2];simp;omega
   · have ih:=Wk (p:=p) (q:=q) (n:=n) (fun j hj=>h j (by omega)) ⟨j,by omega,h1,h2⟩
     have hn:=h n (by omega)
     by_cases hp:p n=true
     · rw [hp,hn hp];simp;omega
     · rw [Bool.not_eq_true] at hp;rw [hp];simp;omega
theorem K9 {p q:Nat→Bool} {n:Nat} (h:∀ j,j < n→p j=true→q j=true):xC p n≤xC q n:=by
 unfold xC
 apply List.countP_mono_left
 intro x hx
 exact h x (Y4.1 hx)
theorem JI {g:Gr} {p:Nat→Bool} {x t:Nat} (h:∀ j,rch g p x (t + 1) j=true→rch g p x t j=true):∀ s j,rch g p x (t + s) j=true→rch g p x t j=true
 | 0,j,hj=>hj
 | s + 1,j,hj=>by
   rcases Jp.1 (show stp g p (rch g p x (t + s)) j=true from hj) with h1 | ⟨h1,y,hy,h2,h3⟩
   · exact JI h s j h1
   · exact h j (Jp.2 (.inr ⟨h1,y,hy,JI h s y h2,h3⟩))
theorem NB {g:Gr} (hg:y0 g=true) {p:Nat→Bool} {x:Nat} (hx:x < g.1.toNat) (hp:p x=true):∃ t,t < xC p g.1.toNat∧∀ j,rch g p x (t + 1) j=true→rch g p x t j=true:=by
 apply ZA
 intro hne
 have hstep:∀ t,t < xC p g.1.toNat→∃ j,rch g p x (t + 1) j=true∧rch g p x t j=false:=by
  intro t ht
  apply ZA
  intro hno
  apply hne
  refine ⟨t,ht,fun j hj=>?_⟩
  cases h:rch g p x t j with
  | true=>rfl
  | false=>exact absurd ⟨j,hj,h⟩ hno
 have hgrow:∀ t,t≤xC p g.1.toNat→t + 1≤xC (rch g p x t) g.1.toNat:=by
  intro t
  induction t with
  | zero=>
    intro _
    have:=Wk (p:=fun _=>false) (q:=rch g p x 0) (n:=g.1.toNat) (by simp) ⟨x,hx,rfl,by simp [rch]⟩
    omega
  | succ t ih=>
    intro ht
    have h1:=ih (by omega)
    obtain ⟨j,hj1,hj2⟩:=hstep t (by omega)
    have:=Wk (p:=rch g p x t) (q:=rch g p x (t + 1)) (n:=g.1.toNat) (fun j _ h=>X9 h _ (by omega)) ⟨j,N1 hg hx _ j hj1,hj2,hj1⟩
    omega
 have h1:=hgrow (xC p g.1.toNat) (xF _)
 have h2:xC (rch g p x (xC p g.1.toNat)) g.1.toNat≤xC p g.1.toNat:=K9 fun j _ h=>LK hp _ j h
 omega
theorem Kc {g:Gr} (hg:y0 g=true) {p:Nat→Bool} {x:Nat} (hx:x < g.1.toNat) (hp:p x=true) {s:Nat} (hs:xC p g.1.toNat≤s + 1):∀ j,rch g p x s j=xw g p x j:=by
 intro j
 obtain ⟨t,ht,hst⟩:=NB hg hx hp
 have hcn:=ur (p:=p) (n:=g.1.toNat)
 have key:∀ s,t≤s→(rch g p x s j=true↔rch g p x t j=true):=fun s hs=>⟨fun h=>by
  have:s=t + (s - t):=by omega
  rw [this] at h;exact JI hst (s - t) j h,fun h=>X9 h s hs⟩
 rw [yJ,key s (by omega)]
 unfold xw
 rw [key g.1.toNat (by omega)]
theorem xh {g:Gr} {p:Nat→Bool} {x:Nat}:xw g p x x=true:=X9 (t:=0) (by simp [rch]) _ (Nat.zero_le _)
theorem Jh {g:Gr} {p:Nat→Bool} {x j:Nat} (hx:p x=true) (h:xw g p x j=true):p j=true:=LK hx _ j h
theorem MT {g:Gr} (hg:y0 g=true) {p:Nat→Bool} {x j:Nat} (hx:x < g.1.toNat) (h:xw g p x j=true):j < g.1.toNat:=N1 hg hx _ j h
theorem xj {g:Gr} (hg:y0 g=true) {p:Nat→Bool} {x y j:Nat} (hx:x < g.1.toNat) (hp:p x=true) (hy:xw g p x y=true) (hj:p j=true) (ha:adj g y j=true):xw g p x j=true:=by
 have hcn:=ur (p:=p) (n:=g.1.toNat)
 have:=Kc hg hx hp (s:=g.1.toNat + 1) (by omega) j
 rw [← this]
 exact Jp.2 (.inr ⟨hj,y,MT hg hx hy,hy,ha⟩)
theorem vx {g:Gr} {p C:Nat→Bool} {x j:Nat} (hx:C x=true) (hC:∀ y j,C y=true→p j=true→adj g y j=true→C j=true) (h:xw g p x j=true):C j=true:=zat hx hC _ j h
def ZZ (p:Nat→Bool):Nat→Option Nat
 | 0=>none
 | n + 1=>match ZZ p n with
   | some x=>some x
   | none=>if p n then some n else none
theorem vv {p:Nat→Bool}:∀ {n:Nat},ZZ p n=none↔∀ j,j < n→p j=false
 | 0=>by simp [ZZ]
 | n + 1=>by
   have ih:=vv (p:=p) (n:=n)
   simp only [ZZ]
   cases h:ZZ p n with
   | some x=>
     simp only [reduceCtorEq,false_iff]
     intro hj
     have:=ih.2 (fun j hj'=>hj j (by omega))
     rw [h] at this;cases this
   | none=>
     simp only
     have h1:=ih.1 h
     by_cases hp:p n=true
     · rw [if_pos hp]
       simp only [reduceCtorEq,false_iff]
       intro hj;have:=hj n (by omega);rw [hp] at this;cases this
     · rw [zy hp]
       simp only [true_iff]
       intro j hj
       by_cases e:j=n
       · subst e;simpa using hp
       · exact h1 j (by omega)
theorem Z9 {p:Nat→Bool} {x:Nat}:∀ {n:Nat},ZZ p n=some x→x < n∧p x=true∧∀ j,j < x→p j=false
 | 0,h=>by simp [ZZ] at h
 | n + 1,h=>by
   simp only [ZZ] at h
   cases h1:ZZ p n with
   | some y=>
     rw [h1] at h
     simp only [zn] at h
     subst h
     have:=Z9 h1
     exact ⟨by omega,this.2⟩
   | none=>
     rw [h1] at h
     simp only at h
     split at h
     · rename_i hp
       simp only [zn] at h
       subst h
       exact ⟨by omega,hp,vv.1 h1⟩
     · cases h
def prt (g:Gr):Nat→(Nat→Bool)→List Nat
 | 0,_=>[]
 | d + 1,p=>match ZZ p g.1.toNat with
   | none=>[]
   | some x=>mkm (xw g p x) g.1.toNat :: prt g d (fun j=>p j && !xw g p x j)
theorem zle:∀ m:Nat,m < 256→m≠0→((List.range 8).any fun x=>(yI .i64 (m:Int) (w64 (0 - (m:Int))) == ((2 ^ x:Nat):Int)) && (m.testBit x && (List.range x).all fun j=>!m.testBit j))=true:=by decide +kernel
theorem zoX {n x:Nat} {p:Nat→Bool} (hn:n≤8) (h:ZZ p n=some x):yI .i64 ((mkm p n:Nat):Int) (w64 (0 - ((mkm p n:Nat):Int)))=((2 ^ x:Nat):Int):=by
 obtain ⟨h1,h2,h3⟩:=Z9 h
 have hm:(mkm p n).testBit x=true:=by rw [yA,h2];simp [h1]
 have hne:mkm p n≠0:=by intro e;rw [e,Za] at hm;cases hm
 have:=zle (mkm p n) (MW hn) hne
 rw [ZT] at this
 obtain ⟨y,hy,hh⟩:=this
 simp only [zp,ym,yN,Y4] at hh
 obtain ⟨e1,e2,e3⟩:=hh
 have:y=x:=by
  rcases Nat.lt_trichotomy y x with hl | hl | hl
  · have:=h3 y hl
    rw [yA,this] at e2;simp at e2
  · exact hl
  · have:=e3 x hl
    rw [hm] at this;cases this
 rw [e1,this]
theorem Lo {p:Nat→Bool} {n:Nat}:mkm p n=0↔ZZ p n=none:=by
 rw [vv]
 constructor
 · intro h j hj
   have:=yA (p:=p) n j
   rw [h,Za] at this
   simpa [hj] using this.symm
 · intro h
   apply ZN;intro j
   rw [yA,Za]
   by_cases hj:j < n
   · simp [h j hj]
   · simp [hj]
theorem zeQ {p q:Nat→Bool} {n:Nat} (h:mkm p n=mkm q n):∀ j,j < n→p j=q j:=by
 intro j hj
 have h1:=yA (p:=p) n j
 have h2:=yA (p:=q) n j
 rw [h,h2] at h1
 simpa [hj] using h1.symm
theorem zcW {g:Gr} {p:Nat→Bool} {x d:Nat} (hx:x < g.1.toNat) (hp:p x=true) (hd:xC p g.1.toNat≤d + 1):xC (fun j=>p j && !xw g p x j) g.1.toNat≤d:=by
 have:=Wk (p:=fun j=>p j && !xw g p x j) (q:=p) (n:=g.1.toNat) (fun j _ h=>by simp only [zp] at h;exact h.1) ⟨x,hx,by simp [xh],hp⟩
 omega
theorem zgK {F:Nat} {g:Gr} (hg:y0 g=true) (hF:40≤F):∀ (d k:Nat) (p:Nat→Bool) (ps:NL Int),xC p g.1.toNat≤d→d < k→ps.list.length + d≤100 →
    wL F ⟨wM g⟩ k ((mkm p g.1.toNat:Nat):Int) ps=some (ps.list++(prt g d p).map fun (m:Nat)=>(m:Int)):=by
 have h8:=yE hg
 obtain ⟨n,hn⟩:∃ n:Nat,g.1.toNat=n:=⟨_,rfl⟩
 have hn8:n≤8:=by omega
 intro d
 induction d with
 | zero=>
   intro k p ps hc hk _
   obtain ⟨k,rfl⟩:∃ k',k=k' + 1:=⟨k - 1,by omega⟩
   have:mkm p g.1.toNat=0:=by
    rw [Lo,vv]
    intro j hj
    cases h:p j with
    | false=>rfl
    | true=>
      have:=Wk (p:=fun _=>false) (q:=p) (n:=g.1.toNat) (by simp) ⟨j,hj,rfl,h⟩
      omega
   rw [this]
   simp [wL,prt]
 | succ d ih=>
   intro k p ps hc hk hps
   obtain ⟨k,rfl⟩:∃ k',k=k' + 1:=⟨k - 1,by omega⟩
   rw [wL]
   cases hf:ZZ p g.1.toNat with
   | none=>
     rw [Lo.2 hf]
     simp [prt,hf]
   | some x=>
     obtain ⟨hx,hp,hmin⟩:=Z9 hf
     have hne:(((mkm p g.1.toNat:Nat):Int) != 0)=true:=by
      rw [bne_iff_ne];intro h
      have:mkm p g.1.toNat=0:=by omega
      rw [Lo,hf] at this;cases this
     rw [hne,zq,zoX (by omega) hf]
     have h0:((2 ^ x:Nat):Int)=((mkm (rch g p x 0) g.1.toNat:Nat):Int):=by
      congr 1
      refine vT fun j=>?_
      rw [wh]
      show decide (x=j)=(decide (j < g.1.toNat) && (j == x))
      rw [yJ];simp;omega
     rw [h0]
     have key:∀ e k2 t,t + e=g.1.toNat + 1→e < k2→uf F ((mkm p g.1.toNat:Nat):Int) ⟨wM g⟩ ps (wL F ⟨wM g⟩ k) k2 ((mkm (rch g p x t) g.1.toNat:Nat):Int) =
         wL F ⟨wM g⟩ k ((mkm (fun j=>p j && !xw g p x j) g.1.toNat:Nat):Int) (.of (ps.list++[((mkm (xw g p x) g.1.toNat:Nat):Int)])):=by
      intro e
      induction e with
      | zero=>
        intro k2 t ht hk2
        obtain ⟨k2,rfl⟩:∃ k',k2=k' + 1:=⟨k2 - 1,by omega⟩
        have hcn:=ur (p:=p) (n:=g.1.toNat)
        have e1:=Kc hg hx hp (s:=t) (by omega)
        have e2:=Kc hg hx hp (s:=t + 1) (by omega)
        have hst:mkm (stp g p (rch g p x t)) g.1.toNat=mkm (rch g p x t) g.1.toNat:=wI fun j _=>by
         show rch g p x (t + 1) j=rch g p x t j
         rw [e1 j,e2 j]
        rw [uf,Ki hg (by omega),ze,Ub (xB (by omega)) (xB (by omega))]
        have hand:mkm (J6 g (rch g p x t)) g.1.toNat &&& mkm p g.1.toNat=mkm (stp g p (rch g p x t)) g.1.toNat:=by
         refine vT fun j=>?_
         rw [Nat.testBit_and,yA,yA]
         unfold J6 stp
         have:=LK (g:=g) hp t j
         cases hr:rch g p x t j with
         | true=>rw [this hr];cases decide (j < g.1.toNat) <;> simp
         | false=>cases decide (j < g.1.toNat) <;> cases p j <;> simp
        rw [hand,hst]
        simp only [ZL,zq]
        rw [YJ (by omega),ze]
        obtain ⟨m,hm1,hm2,hm3⟩:=Zn (a:=mkm p g.1.toNat) (b:=mkm (rch g p x t) g.1.toNat) (xB (by omega)) (xB (by omega))
        have hmm:m=mkm (fun j=>p j && !xw g p x j) g.1.toNat:=by
         refine vT fun j=>?_
         rw [hm3,yA,yA,e1 j]
         cases decide (j < g.1.toNat) <;> simp
        rw [hm1,hmm,wI (p:=rch g p x t) (q:=xw g p x) (fun j _=>e1 j)]
      | succ e ihe=>
        intro k2 t ht hk2
        obtain ⟨k2,rfl⟩:∃ k',k2=k' + 1:=⟨k2 - 1,by omega⟩
        rw [uf,Ki hg (by omega),ze,Ub (xB (by omega)) (xB (by omega))]
        have hand:mkm (J6 g (rch g p x t)) g.1.toNat &&& mkm p g.1.toNat=mkm (stp g p (rch g p x t)) g.1.toNat:=by
         refine vT fun j=>?_
         rw [Nat.testBit_and,yA,yA]
         unfold J6 stp
         have:=LK (g:=g) hp t j
         cases hr:rch g p x t j with
         | true=>rw [this hr];cases decide (j < g.1.toNat) <;> simp
         | false=>cases decide (j < g.1.toNat) <;> cases p j <;> simp
        rw [hand]
        by_cases hst:mkm (stp g p (rch g p x t)) g.1.toNat=mkm (rch g p x t) g.1.toNat
        · have e1:∀ j,rch g p x t j=xw g p x j:=by
           have hst2:∀ j,rch g p x (t + 1) j=true→rch g p x t j=true:=by
            intro j hj
            rw [← zeQ hst j (N1 hg hx _ j hj)];exact hj
           intro j
           rw [yJ]
           constructor
           · intro h
             by_cases hts:t≤g.1.toNat
             · exact X9 h _ hts
             · have:=Kc hg hx hp (s:=t) (by have:=ur (p:=p) (n:=g.1.toNat);omega) j
               rw [← this];exact h
           · intro h
             by_cases hts:t≤g.1.toNat
             · have hh:rch g p x (t + (g.1.toNat - t)) j=true:=by rw [show t + (g.1.toNat - t)=g.1.toNat by omega];exact h
               exact JI hst2 _ j hh
             · exact X9 h _ (by omega)
          rw [hst]
          simp only [ZL,zq]
          rw [YJ (by omega),ze]
          obtain ⟨m,hm1,hm2,hm3⟩:=Zn (a:=mkm p g.1.toNat) (b:=mkm (rch g p x t) g.1.toNat) (xB (by omega)) (xB (by omega))
          have hmm:m=mkm (fun j=>p j && !xw g p x j) g.1.toNat:=by
           refine vT fun j=>?_
           rw [hm3,yA,yA,e1 j]
           cases decide (j < g.1.toNat) <;> simp
          rw [hm1,hmm,wI (p:=rch g p x t) (q:=xw g p x) (fun j _=>e1 j)]
        · have hb:(((mkm (stp g p (rch g p x t)) g.1.toNat:Nat):Int) == ((mkm (rch g p x t) g.1.toNat:Nat):Int))=false:=by
           rw [wv];intro h;exact hst (by exact_mod_cast h)
          rw [hb,zo]
          exact ihe k2 (t + 1) (by omega) (by omega)
     rw [key (g.1.toNat + 1) F 0 (by omega) (by omega),ih k _ _ (zcW hx hp hc) (by omega) (by show (ps.list++[_]).length + d≤100;simp;omega)]
     simp only [prt,hf,NL.list]
     simp
theorem zhG {F:Nat} {g:Gr} {p:Nat→Bool} (hg:y0 g=true) (hF:40≤F):uF F ⟨wM g⟩ ((mkm p g.1.toNat:Nat):Int)=some ((prt g g.1.toNat p).map fun (m:Nat)=>(m:Int)):=by
 have h8:=yE hg
 unfold uF
 rw [zgK hg hF g.1.toNat F p .nil ur (by omega) (by show 0 + g.1.toNat≤100;omega)];rfl
theorem zhk {g:Gr} (hg:y0 g=true) {p q:Nat→Bool} {x:Nat} (hx:x < g.1.toNat) (hq:q x=true) (hsub:∀ j,q j=true→p j=true) (hcl:∀ y j,q y=true→p j=true→adj g y j=true→q j=true):∀ j,xw g p x j=xw g q x j:=by
 intro j
 rw [yJ]
 constructor
 · intro h
   have:(xw g q x j && q j)=true:=vx (C:=fun j=>xw g q x j && q j) (p:=p) (by simp [xh,hq]) (fun y j hy hj ha=>by
    simp only [zp] at hy ⊢
    have:=hcl y j hy.2 hj ha
    exact ⟨xj hg hx hq hy.1 this ha,this⟩) h
   simp only [zp] at this
   exact this.1
 · intro h
   exact vx (C:=xw g p x) (p:=q) xh (fun y j hy hj ha=>xj hg hx (hsub x hq) hy (hsub j hj) ha) h
theorem M9 {L:Nat→Int→Option Int} {n:Nat} {p:Nat→Bool} (hs:∀ k i,i < n→L (k + 1) (i:Int)=bif p i then some (i:Int) else L k ((i + 1:Nat):Int)) (he:∀ k,L (k + 1) (n:Int)=some (-1)) :
    ∀ k,n < k→∃ r,L k 0=some r∧decide (r≥0)=ZU p n∧∀ i,ZZ p n=some i→r=i:=by
 have key:∀ d k i,i + d=n→d < k→(∀ j,j < i→p j=false)→∃ r,L k (i:Int)=some r∧decide (r≥0)=ZU p n∧∀ i,ZZ p n=some i→r=i:=by
  intro d
  induction d with
  | zero=>
    intro k i hi hk hp
    obtain ⟨k,rfl⟩:∃ k',k=k' + 1:=⟨k - 1,by omega⟩
    obtain rfl:i=n:=by omega
    refine ⟨-1,he k,?_,?_⟩
    · have:ZU p i=false:=by
       rw [Bool.eq_false_iff];intro h
       obtain ⟨j,hj,h⟩:=xN.1 h
       rw [hp j hj] at h;cases h
      rw [this];decide
    · intro j hj
      have:=Z9 hj
      rw [hp j this.1] at this;cases this.2.1
  | succ d ih=>
    intro k i hi hk hp
    obtain ⟨k,rfl⟩:∃ k',k=k' + 1:=⟨k - 1,by omega⟩
    rw [hs k i (by omega)]
    cases hpi:p i with
    | true=>
      refine ⟨i,by rw [zq],?_,?_⟩
      · rw [xN.2 ⟨i,by omega,hpi⟩];simp
      · intro j hj
        obtain ⟨h1,h2,h3⟩:=Z9 hj
        have a1:¬ i < j:=fun h=>by rw [h3 i h] at hpi;cases hpi
        have a2:¬ j < i:=fun h=>by rw [hp j h] at h2;cases h2
        omega
    | false=>
      rw [zo]
      refine ih k (i + 1) (by omega) (by omega) ?_
      intro j hj
      by_cases e:j=i
      · subst e;exact hpi
      · exact hp j (by omega)
 intro k hk
 exact key n k 0 (by omega) hk (fun j hj=>absurd hj (by omega))
def zdw (xs:List (List Int)):Nat→Nat
 | 0=>0
 | i + 1=>zdw xs i + (xs.getD i []).length
theorem Qh {xs:List (List Int)}:∀ {i j:Nat},i≤j→zdw xs i≤zdw xs j
 | i,0,h=>by obtain rfl:i=0:=by omega
             exact xF _
 | i,j + 1,h=>by
   by_cases e:i=j + 1
   · subst e;exact xF _
   · have:=Qh (xs:=xs) (i:=i) (j:=j) (by omega)
     simp only [zdw];omega
theorem zlF {xs:List (List Int)} {i:Nat} (h:i < xs.length):(xs.getD i []).length≤zdw xs xs.length:=by
 have:=Qh (xs:=xs) (i:=i + 1) (j:=xs.length) (by omega)
 simp only [zdw] at this;omega
def Uq (n:Int) (l:List Int):Bool:=wG (fun i=>(decide (0≤l.getD i 0) && decide (l.getD i 0 < n)) && (i == 0 || decide (l.getD (i - 1) 0 < l.getD i 0))) l.length
theorem zjf {F:Nat} {g:Gr} {l:List Int} (hg:y0 g=true) (hF:l.length < F) (hl:Sm l.length):Jx F g l=some (Uq g.1 l):=by
 have h8:=yE hg
 unfold Jx XH
 have hw:w64 (g.1 - 1)=g.1 - 1:=vP (by omega) (by omega)
 rw [hw,vQ (L:=fun k i=>wq F l 0 (g.1 - 1) k i) (n:=l.length) (p:=fun i=>(decide (0≤l.getD i 0) && decide (l.getD i 0 < g.1)) && (i == 0 || decide (l.getD (i - 1) 0 < l.getD i 0))) (bad:=some false) (fin:=some true) ?_ ?_ F hF]
 · unfold Uq
   cases wG (fun i=>(decide (0≤l.getD i 0) && decide (l.getD i 0 < g.1)) && (i == 0 || decide (l.getD (i - 1) 0 < l.getD i 0))) l.length <;> rfl
 · intro k i hi
   simp only [wq,ZJ]
   rw [zw (show (i:Int) < (l.length:Int) by omega),zq,z9 (d:=0) hi,ze,MK,ze,yw hi hl]
   have e:decide (l.getD i 0≤g.1 - 1)=decide (l.getD i 0 < g.1):=by
    rw [decide_eq_decide];omega
   rw [e]
   cases hb:(decide (0≤l.getD i 0) && decide (l.getD i 0 < g.1)) with
   | false=>rfl
   | true=>
     rw [yS,zo,z6]
     by_cases h0:i=0
     · subst h0;rfl
     · rw [zw (show (i:Int) > 0 by omega),zq,JG (by omega) hi hl,z9 (d:=0) (by omega),ze,ze]
       have h0':(i == 0)=false:=by simpa using h0
       rw [h0',ZO]
       by_cases h:l.getD (i - 1) 0 < l.getD i 0
       · rw [zw h,zI (by omega)];rfl
       · rw [zI h,zw (by omega)];rfl
 · intro k
   simp only [wq]
   rw [zI (show ¬ (l.length:Int) < (l.length:Int) by omega),zo]
theorem zcF {F:Nat} {g:Gr} {l:List Int} (hg:y0 g=true) (hF:l.length < F) (hl:Sm l.length) (hG:g.2.length < F) (hs:Sm g.2.length) (h3:3≤F):Ji F g l=some (Uq g.1 l):=by
 have h8:=yE hg
 unfold Ji XJ uN Yg
 have hw:w64 (g.1 - 1)=g.1 - 1:=vP (by omega) (by omega)
 rw [YU hG h3 hs,ze,hg,zq,hw]
 rw [vQ (L:=fun k i=>wK F 0 (g.1 - 1) l k i) (n:=l.length) (p:=fun i=>decide (0≤l.getD i 0) && decide (l.getD i 0 < g.1)) (bad:=some false) (fin:=some true) ?_ ?_ F hF]
 · have hinc:wr F l F 1=some (wG (fun i=>i == 0 || decide (l.getD (i - 1) 0 < l.getD i 0)) l.length):=by
    show wr F l F ((0:Int) + 1)=_
    by_cases hl0:l.length=0
    · obtain ⟨k,rfl⟩:∃ k,F=k + 1:=⟨F - 1,by omega⟩
      simp only [wr]
      rw [hl0,zI (by omega),zo];rfl
    · rw [vQ (L:=fun k i=>wr F l k (i + 1)) (n:=l.length - 1) (p:=fun i=>decide (l.getD i 0 < l.getD (i + 1) 0)) (bad:=some false) (fin:=some true) ?_ ?_ F (by omega)]
      · have:wG (fun i=>decide (l.getD i 0 < l.getD (i + 1) 0)) (l.length - 1)=wG (fun i=>i == 0 || decide (l.getD (i - 1) 0 < l.getD i 0)) l.length:=by
         rw [yJ,yV,yV]
         constructor
         · intro h i hi
           cases i with
           | zero=>rfl
           | succ i=>simpa using h i (by omega)
         · intro h i hi
           simpa using h (i + 1) (by omega)
        rw [this]
        cases wG (fun i=>i == 0 || decide (l.getD (i - 1) 0 < l.getD i 0)) l.length <;> rfl
      · intro k i hi
        have e1:((i:Int) + 1)=((i + 1:Nat):Int):=by omega
        simp only [wr]
        rw [e1,zw (show ((i + 1:Nat):Int) < (l.length:Int) by omega),zq,JG (n:=l.length) (by omega) (by omega) hl,Nat.add_sub_cancel,z9 (d:=0) (by omega),ze,z9 (d:=0) (by omega),ze,yw (n:=l.length) (by omega) hl]
        by_cases h:l.getD i 0 < l.getD (i + 1) 0
        · rw [zw h,zI (by omega)];rfl
        · rw [zI h,zw (by omega)];rfl
      · intro k
        simp only [wr]
        rw [zI (by omega),zo]
   have hsplit:Uq g.1 l=(wG (fun i=>decide (0≤l.getD i 0) && decide (l.getD i 0 < g.1)) l.length && wG (fun i=>i == 0 || decide (l.getD (i - 1) 0 < l.getD i 0)) l.length):=by
    unfold Uq
    rw [yJ,zp,yV,yV,yV]
    constructor
    · intro h
      constructor
      · intro i hi;have:=h i hi;rw [zp] at this;exact this.1
      · intro i hi;have:=h i hi;rw [zp] at this;exact this.2
    · rintro ⟨h1,h2⟩ i hi;rw [zp];exact ⟨h1 i hi,h2 i hi⟩
   rw [hinc,hsplit]
   cases wG (fun i=>decide (0≤l.getD i 0) && decide (l.getD i 0 < g.1)) l.length <;> rfl
 · intro k i hi
   simp only [wK]
   rw [zw (show (i:Int) < (l.length:Int) by omega),zq,z9 (d:=0) hi,ze,LO,ze,yw hi hl]
   have e:decide (l.getD i 0≤g.1 - 1)=decide (l.getD i 0 < g.1):=by
    rw [decide_eq_decide];omega
   rw [e]
   cases (decide (0≤l.getD i 0) && decide (l.getD i 0 < g.1)) <;> rfl
 · intro k
   simp only [wK]
   rw [zI (show ¬ (l.length:Int) < (l.length:Int) by omega),zo]
def Lk (v:Int→Int) (s:Option Int) (y:Int):Option Int:=match s with
 | none=>some (v y)
 | some b=>if v y < b then some (v y) else some b
def mnO (v:Int→Int) (l:List Int):Option Int:=l.foldl (Lk v) none
def mn (v:Int→Int) (l:List Int) (nn:Int):Int:=(mnO v l).getD nn
theorem zcA {v:Int→Int} {l:List Int} {y:Int}:mnO v (l++[y])=Lk v (mnO v l) y:=by simp [mnO,List.foldl_append]
theorem zdo {v:Int→Int}:∀ {l:List Int},mnO v l=none↔l=[]:=by
 intro l
 constructor
 · intro h
   cases hl:l.reverse with
   | nil=>simpa using hl
   | cons y ys=>
     have:l=ys.reverse++[y]:=by rw [← List.reverse_reverse l,hl];simp
     rw [this,zcA] at h
     unfold Lk at h
     split at h
     · cases h
     · split at h <;> cases h
 · rintro rfl;rfl
theorem zoC {v:Int→Int} {nn:Int}:mn v [] nn=nn:=rfl
theorem zeh {v:Int→Int} {l:List Int} {y nn:Int}:mn v (l++[y]) nn=if l=[]∨v y < mn v l nn then v y else mn v l nn:=by
 unfold mn
 rw [zcA]
 cases h:mnO v l with
 | none=>
   have:=zdo.1 h
   rw [if_pos (.inl this)];rfl
 | some b=>
   have hne:l≠[]:=fun e=>by rw [zdo.2 e] at h;cases h
   simp only [Lk,y3,hne,false_or]
   split <;> rfl
theorem ziL {v w:Int→Int} {nn:Int} {l:List Int} (h:∀ y∈l,v y=w y):mn v l nn=mn w l nn:=by
 have key:∀ (l:List Int) (s:Option Int),(∀ y∈l,v y=w y)→l.foldl (Lk v) s=l.foldl (Lk w) s:=by
  intro l
  induction l with
  | nil=>intro s _;rfl
  | cons y l ih=>
    intro s h
    simp only [List.foldl_cons]
    have:Lk v s y=Lk w s y:=by
     unfold Lk
     rw [h y (by simp)]
    rw [this]
    exact ih _ fun z hz=>h z (by simp [hz])
 unfold mn mnO
 rw [key l none h]
theorem zr3 {v:Int→Int} {nn t:Int} {l:List Int} (hl:l≠[]):mn v l nn≤t↔∃ y∈l,v y≤t:=by
 have key:∀ (r:List Int),r≠[]→(mn v r.reverse nn≤t↔∃ y∈r,v y≤t):=by
  intro r
  induction r with
  | nil=>intro h;exact absurd rfl h
  | cons y r ih=>
    intro _
    rw [List.reverse_cons,zeh]
    by_cases hr:r=[]
    · subst hr
      simp
    · have hr':r.reverse≠[]:=by simpa using hr
      have:=ih hr
      simp only [hr',false_or,yf,exists_eq_or_imp]
      split
      · rename_i h
        constructor
        · intro h1;exact .inl h1
        · rintro (h1 | h1)
          · exact h1
          · have:=this.2 h1;omega
      · rename_i h
        constructor
        · intro h1;exact .inr (this.1 h1)
        · rintro (h1 | h1)
          · omega
          · exact this.2 h1
 have:=key l.reverse (by simpa using hl)
 simpa using this
def Wu (n m:Nat):List Int:=yn (fun x=>!m.testBit x) n
theorem JY {n m:Nat} {y:Int}:y∈Wu n m↔∃ x:Nat,y=x∧x < n∧m.testBit x=false:=by
 unfold Wu
 rw [Zd]
 simp
theorem zft:∀ c:Nat,c < 256→∀ y:Nat,y < 8→c.testBit y=false→c ||| 2 ^ y=c + 2 ^ y:=by decide +kernel
theorem zvb {n m:Nat} (hn:n≤8) (h:m < 2 ^ n):m < 256:=Yj h (by
 have:=vG (n:=2) (by decide) hn
 simpa using this)
theorem zmk {n m x:Nat} (h:m < 2 ^ n) (hx:x < n):m ||| 2 ^ x < 2 ^ n:=Nat.or_lt_two_pow h (Nat.pow_lt_pow_right (by decide) hx)
theorem zfz {n m:Nat} (h:m < 2 ^ n) (hb:∀ x,x < n→m.testBit x=true):m=2 ^ n - 1:=by
 apply ZN
 intro j
 rw [Nat.testBit_two_pow_sub_one]
 by_cases hj:j < n
 · rw [hb j hj,zw hj]
 · rw [zI hj]
   exact Nat.testBit_lt_two_pow (Yj h (vG (by decide) (by omega)))
theorem zjk {n m:Nat} (h:m < 2 ^ n):Wu n m=[]↔m=2 ^ n - 1:=by
 constructor
 · intro h0
   refine zfz h fun x hx=>?_
   cases hb:m.testBit x with
   | true=>rfl
   | false=>
     have:(x:Int)∈Wu n m:=JY.2 ⟨x,rfl,hx,hb⟩
     rw [h0] at this;cases this
 · rintro rfl
   rw [List.eq_nil_iff_forall_not_mem]
   intro y hy
   obtain ⟨x,_,hx,hb⟩:=JY.1 hy
   rw [Nat.testBit_two_pow_sub_one,zw hx] at hb;cases hb
def Lw (n:Nat) (c:Nat→Nat→Int) (nn:Int) (T:Nat→Int):Prop:=∀ m,m < 2 ^ n→T m=mn (fun x=>max (c m x.toNat) (T (m ||| 2 ^ x.toNat))) (Wu n m) nn
inductive Ch (n:Nat) (c:Nat→Int) (t:Int):Nat→Nat→Prop
 | refl (m:Nat):Ch n c t m m
 | step {m x m':Nat}:x < n→m.testBit x=false→c (m ||| 2 ^ x)≤t→Ch n c t (m ||| 2 ^ x) m'→Ch n c t m m'
theorem zin {n:Nat} (hn:n≤8):2 ^ n≤256:=by
 have:=vG (n:=2) (by decide) hn
 simpa using this
end Go.Zq
