/- Plain mathematics: what the functions answer (part 1). Conditions: stated in each theorem. -/
import Derived.Test.YtelahampjnaimacK3
import Derived.Test.YtelahampjnaimacGT
set_option linter.unusedVariables false
set_option linter.unusedSimpArgs false
namespace Go.Zq
def vM (F:Nat) (x_2:(List Int)) (x_1:(Int×(List (Int×Int)))) :Nat→(List Int)→Int→Option ((List Int)×Bool)
 | 0,_,_=>none
 | k + 1,x_9,x_10=>
   bif decide (x_10≤(x_2.length:Int)) then
    (sub x_2 0 x_10).bind fun sub_14=>
    (Yy F x_1 sub_14).bind fun r_15=>
    (vz x_9 [(r_15.length:Int)]).bind fun ap_16=>
    (vM F x_2 x_1 k) ap_16 (w64 (x_10 + 1))
   else
    some (x_9,true)
def XF (F:Nat) (x_2:(List Int)) (x_1:(Int×(List (Int×Int))))  (x_5:Bool):Option ((List Int)×Bool):=
 bif x_5 then
  some ([],false)
 else
  vM F x_2 x_1 F [] 1
def Kn (F:Nat) (x_1:(Int×(List (Int×Int)))) (x_2:(List Int)):Option ((List Int)×Bool):=
 (ug F x_1).bind fun r_17=>
 bif (!r_17) then
  XF F x_2 x_1 true
 else
  (ZD F x_1 x_2).bind fun r_18=>
  XF F x_2 x_1 (!r_18)
def xL (F:Nat) (r_6:(S1 (List Int))) (layout_2:(List Int)) :Nat→(List Int)→Int→Int→Option ((NL Int)×Bool)
 | 0,_,_,_=>none
 | k + 1,sizes_12,set_13,t27_14=>
   bif decide (t27_14 < (layout_2.length:Int)) then
    (idx layout_2 t27_14).bind fun e_19=>
    (xE F r_6 set_13 e_19).bind fun r_20=>
    (idx sizes_12 t27_14).bind fun e_21=>
    (Wc .i64 1 e_19).bind fun q_22=>
    (xL F r_6 layout_2 k) (sizes_12.set t27_14.toNat r_20) (ior .i64 set_13 q_22) (w64 (t27_14 + 1))
   else
    some ((.of sizes_12),true)
def Zo (F:Nat) (layout_2:(List Int)) (g_1:(Int×(List (Int×Int))))  (t19_5:Bool):Option ((NL Int)×Bool):=
 bif t19_5 then
  some (.nil,false)
 else
  (ZQ F g_1).bind fun r_6=>
  (mkN g_1.1 0).bind fun mk_7=>
  xL F r_6 layout_2 F mk_7 0 0
def Wx (F:Nat) (g_1:(Int×(List (Int×Int)))) (layout_2:(List Int)):Option ((NL Int)×Bool):=
 (vw F g_1).bind fun r_23=>
 bif (!r_23) then
  Zo F layout_2 g_1 true
 else
  (Zi F g_1 layout_2).bind fun r_24=>
  Zo F layout_2 g_1 (!r_24)
def vl (F:Nat) (r_6:(S1 (List Int))) (had_40:Int) (q_77:Int) (layout_2:(List Int)) (t27_42:Int) (r_79:(List Int)) (t46_90:Int) (c1:(NL Int)→Int→Int→Int→Option ((NL Int)×Bool)) (c4:(List Int)→Int→Int→Option ((NL Int)×Bool)) (program_103:(List Int)) (there_104:Int):Option ((NL Int)×Bool):=
 c4 program_103 there_104 (w64 (t46_90 + 1))
def yP (F:Nat) (r_6:(S1 (List Int))) (had_40:Int) (q_77:Int) (layout_2:(List Int)) (t27_42:Int) (r_79:(List Int)) (c1:(NL Int)→Int→Int→Int→Option ((NL Int)×Bool)):Nat→(List Int)→Int→Int→Option ((NL Int)×Bool)
 | 0,_,_,_=>none
 | k + 1,program_88,there_89,t46_90=>
   bif decide (t46_90 < (r_79.length:Int)) then
    (idx r_79 t46_90).bind fun e_99=>
    (idx r_6.a e_99).bind fun e_100=>
    bif ((yS .i64 e_100 (ior .i64 had_40 q_77)) == 0) then
     (vz program_88 [w64 ((-1) - e_99)]).bind fun ap_105=>
     (Wc .i64 1 e_99).bind fun q_106=>
     vl F r_6 had_40 q_77 layout_2 t27_42 r_79 t46_90 c1 (yP F r_6 had_40 q_77 layout_2 t27_42 r_79 c1 k) ap_105 (yS .i64 there_89 q_106)
    else
     vl F r_6 had_40 q_77 layout_2 t27_42 r_79 t46_90 c1 (yP F r_6 had_40 q_77 layout_2 t27_42 r_79 c1 k) program_88 there_89
   else
    c1 (.of program_88) (ior .i64 had_40 q_77) there_89 (w64 (t27_42 + 1))
def y4 (F:Nat) (r_6:(S1 (List Int))) (layout_2:(List Int)) :Nat→(NL Int)→Int→Int→Int→Option ((NL Int)×Bool)
 | 0,_,_,_,_=>none
 | k + 1,program_39,had_40,there_41,t27_42=>
   bif decide (t27_42 < (layout_2.length:Int)) then
    (idx layout_2 t27_42).bind fun e_75=>
    (vz program_39.list [e_75]).bind fun ap_76=>
    (Wc .i64 1 e_75).bind fun q_77=>
    (Wc .i64 1 e_75).bind fun q_78=>
    (Y2 F (ior .i64 there_41 q_78)).bind fun r_79=>
    yP F r_6 had_40 q_77 layout_2 t27_42 r_79 (y4 F r_6 layout_2 k) F ap_76 (ior .i64 there_41 q_78) 0
   else
    some (program_39,true)
def vi (F:Nat) (layout_2:(List Int)) (g_1:(Int×(List (Int×Int))))  (t22_5:Bool):Option ((NL Int)×Bool):=
 bif t22_5 then
  some (.nil,false)
 else
  (ZQ F g_1).bind fun r_6=>
  y4 F r_6 layout_2 F .nil 0 0 0
def uz (F:Nat) (g_1:(Int×(List (Int×Int)))) (layout_2:(List Int)):Option ((NL Int)×Bool):=
 (vw F g_1).bind fun r_107=>
 bif (!r_107) then
  vi F layout_2 g_1 true
 else
  (Zi F g_1 layout_2).bind fun r_108=>
  vi F layout_2 g_1 (!r_108)
theorem xw {x:Int} (h1:-9223372036854775808≤x) (h2:x < 9223372036854775808):w64 x=x:=by
 show IntKind.wrap .i64 x=x
 simp only [IntKind.wrap,IntKind.bits,IntKind.signed,zL]
 have e1:((2:Int) ^ 64)=18446744073709551616:=by decide
 have e2:((2:Int) ^ (64 - 1))=9223372036854775808:=by decide
 simp only [e1,e2]
 split
 · rename_i h;simp only [ge_iff_le,yn] at h;omega
 · rename_i h;simp only [ge_iff_le,yn] at h;omega
theorem L9 {n:Int}:(Lit.int .i64 n).wf=true↔-9223372036854775808≤n∧n≤9223372036854775807:=by
 have e1:IntKind.min .i64=-9223372036854775808:=by decide
 have e2:IntKind.max .i64=9223372036854775807:=by decide
 simp [Lit.wf,e1,e2]
def Sm (n:Nat):Prop:=n≤4611686018427387904
theorem yd {i n:Nat} (hi:i < n) (hn:Sm n):w64 ((i:Int) + 1)=((i + 1:Nat):Int):=by
 unfold Sm at hn
 rw [xw (by omega) (by omega)];omega
theorem zb9 {i n:Nat} (h0:0 < i) (hi:i < n) (hn:Sm n):w64 ((i:Int) - 1)=((i - 1:Nat):Int):=by
 unfold Sm at hn
 rw [xw (by omega) (by omega)];omega
theorem UN {α:Type} {xs:List α} {i:Nat} (h:i < xs.length):idx xs (i:Int)=some xs[i]:=by
 unfold idx
 rw [if_pos (by omega)]
 simp [h]
theorem zT {α:Type} {xs:List α} {i:Nat} {d:α} (h:i < xs.length):idx xs (i:Int)=some (xs.getD i d):=by
 rw [UN h];simp [h]
def w7 (p:Nat→Bool):Nat→Bool
 | 0=>true
 | n + 1=>w7 p n && p n
def ve (p:Nat→Bool):Nat→Bool
 | 0=>false
 | n + 1=>ve p n || p n
theorem y6 {p:Nat→Bool}:∀ {n:Nat},w7 p n=true↔∀ i,i < n→p i=true
 | 0=>by simp [w7]
 | n + 1=>by
   simp only [w7,zq,y6]
   constructor
   · rintro ⟨h1,h2⟩ i hi
     by_cases e:i=n
     · subst e;exact h2
     · exact h1 i (by omega)
   · intro h
     exact ⟨fun i hi=>h i (by omega),h n (by omega)⟩
theorem MF {p q:Nat→Bool} {n:Nat} (h:∀ i,i < n→p i=q i):w7 p n=w7 q n:=by
 rw [yM,y6,y6]
 constructor
 · intro h1 i hi;rw [← h i hi];exact h1 i hi
 · intro h1 i hi;rw [h i hi];exact h1 i hi
theorem uj {p:Nat→Bool}:∀ {n:Nat},ve p n=true↔∃ i,i < n∧p i=true
 | 0=>by simp [ve]
 | n + 1=>by
   simp only [ve,yU,uj]
   constructor
   · rintro (⟨i,h1,h2⟩ | h)
     · exact ⟨i,by omega,h2⟩
     · exact ⟨n,by omega,h⟩
   · rintro ⟨i,h1,h2⟩
     by_cases e:i=n
     · subst e;exact .inr h2
     · exact .inl ⟨i,by omega,h2⟩
theorem Ko {p:Nat→Bool} {n:Nat}:ve p n=!w7 (fun i=>!p i) n:=by
 induction n with
 | zero=>rfl
 | succ n ih=>simp [ve,w7,ih,Bool.not_and]
theorem MQ {p q:Nat→Bool} {n:Nat} (h:∀ i,i < n→p i=q i):ve p n=ve q n:=by
 rw [Ko,Ko,MF];intro i hi;rw [h i hi]
theorem uJ {β:Type} {L:Nat→Int→Option β} {n:Nat} {p:Nat→Bool} {bad fin:Option β} (hs:∀ k i,i < n→L (k + 1) (i:Int)=bif p i then L k ((i + 1:Nat):Int) else bad) (he:∀ k,L (k + 1) (n:Int)=fin) :
    ∀ k,n < k→L k 0=bif w7 p n then fin else bad:=by
 have key:∀ d k i,i + d=n→d < k→(∀ j,j < i→p j=true)→L k (i:Int)=bif w7 p n then fin else bad:=by
  intro d
  induction d with
  | zero=>
    intro k i hi hk hp
    obtain ⟨k,rfl⟩:∃ k',k=k' + 1:=⟨k - 1,by omega⟩
    obtain rfl:i=n:=by omega
    rw [he,show w7 p i=true from y6.2 hp];rfl
  | succ d ih=>
    intro k i hi hk hp
    obtain ⟨k,rfl⟩:∃ k',k=k' + 1:=⟨k - 1,by omega⟩
    rw [hs k i (by omega)]
    cases hpi:p i with
    | true=>
      simp only [zk]
      refine ih k (i + 1) (by omega) (by omega) ?_
      intro j hj
      by_cases e:j=i
      · subst e;exact hpi
      · exact hp j (by omega)
    | false=>
      have:w7 p n=false:=by
       rw [Bool.eq_false_iff];intro h
       have:=y6.1 h i (by omega);rw [hpi] at this;cases this
      rw [this];rfl
 intro k hk
 exact key n k 0 (by omega) hk (by simp)
theorem zgi {β σ:Type} {L:Nat→Int→σ→Option β} {n:Nat} (I:Nat→σ→Prop) {fin:σ→Option β} (st:Nat→σ→σ)
    (hs:∀ k i s,i < n→I i s→L (k + 1) (i:Int) s=L k ((i + 1:Nat):Int) (st i s)) (hi:∀ i s,i < n→I i s→I (i + 1) (st i s)) (he:∀ k s,I n s→L (k + 1) (n:Int) s=fin s) :
    ∀ k s0,n < k→I 0 s0→∃ s,I n s∧L k 0 s0=fin s∧s=(List.range n).foldl (fun s i=>st i s) s0:=by
 have key:∀ d k i s,i + d=n→d < k→I i s→∃ s',I n s'∧L k (i:Int) s=fin s'∧s'=(List.range' i d).foldl (fun s i=>st i s) s:=by
  intro d
  induction d with
  | zero=>
    intro k i s hi hk hI
    obtain ⟨k,rfl⟩:∃ k',k=k' + 1:=⟨k - 1,by omega⟩
    obtain rfl:i=n:=by omega
    exact ⟨s,hI,he k s hI,rfl⟩
  | succ d ih=>
    intro k i s hd hk hI
    obtain ⟨k,rfl⟩:∃ k',k=k' + 1:=⟨k - 1,by omega⟩
    rw [hs k i s (by omega) hI]
    obtain ⟨s',h1,h2,h3⟩:=ih k (i + 1) (st i s) (by omega) (by omega) (hi i s (by omega) hI)
    exact ⟨s',h1,h2,by rw [h3,List.range'_succ];rfl⟩
 intro k s0 hk hI
 obtain ⟨s',h1,h2,h3⟩:=key n k 0 s0 (by omega) hk hI
 exact ⟨s',h1,h2,by rw [h3,List.range_eq_range']⟩
theorem xA {β σ:Type} {L:Nat→Int→σ→Option β} {n:Nat} (I:Nat→σ→Prop) {r:Option β}
    (hs:∀ k i s,i < n→I i s→∃ s',I (i + 1) s'∧L (k + 1) (i:Int) s=L k ((i + 1:Nat):Int) s') (he:∀ k s,I n s→L (k + 1) (n:Int) s=r) :
    ∀ k s0,n < k→I 0 s0→L k 0 s0=r:=by
 have key:∀ d k i s,i + d=n→d < k→I i s→L k (i:Int) s=r:=by
  intro d
  induction d with
  | zero=>
    intro k i s hi hk hI
    obtain ⟨k,rfl⟩:∃ k',k=k' + 1:=⟨k - 1,by omega⟩
    obtain rfl:i=n:=by omega
    exact he k s hI
  | succ d ih=>
    intro k i s hd hk hI
    obtain ⟨k,rfl⟩:∃ k',k=k' + 1:=⟨k - 1,by omega⟩
    obtain ⟨s',h1,h2⟩:=hs k i s (by omega) hI
    rw [h2]
    exact ih k (i + 1) s' (by omega) (by omega) h1
 intro k s0 hk hI
 exact key n k 0 s0 (by omega) hk hI
theorem za7 {α:Type} {n:Nat} {x:α} (h:n≤1099511627776):mkN (n:Int) x=some (List.replicate n x):=by
 unfold mkN
 rw [if_pos ⟨by omega,by have:((2:Int) ^ 40)=1099511627776:=by decide
                         omega⟩]
 simp
theorem zfl {β:Type} {L:Nat→Int→Option β} {n:Nat} {r:Option β} (hs:∀ k i,i < n→L (k + 1) (i:Int)=L k ((i + 1:Nat):Int)) (he:∀ k,L (k + 1) (n:Int)=r):∀ k,n < k→L k 0=r:=by
 intro k hk
 exact xA (L:=fun k i (_:Unit)=>L k i) (fun _ _=>True) (fun k i s hi _=>⟨(),trivial,hs k i hi⟩) (fun k s _=>he k) k () hk trivial
theorem vg {α:Type} {l:List α} {i:Nat} {d:α} (h:i < l.length):l.getD i d∈l:=by
 rw [zZ,yL h];exact Xc h
theorem zfa {β σ:Type} {L:Nat→Int→σ→Option β} {n:Nat} (I:Nat→σ→Prop) {p:Nat→Bool} {r bad:Option β}
    (hs:∀ k i s,i < n→I i s→p i=true→∃ s',I (i + 1) s'∧L (k + 1) (i:Int) s=L k ((i + 1:Nat):Int) s') (hb:∀ k i s,i < n→I i s→p i=false→L (k + 1) (i:Int) s=bad) (he:∀ k s,I n s→L (k + 1) (n:Int) s=r) :
    ∀ k s0,n < k→I 0 s0→L k 0 s0=bif w7 p n then r else bad:=by
 have key:∀ d k i s,i + d=n→d < k→I i s→(∀ j,j < i→p j=true)→L k (i:Int) s=bif w7 p n then r else bad:=by
  intro d
  induction d with
  | zero=>
    intro k i s hi hk hI hp
    obtain ⟨k,rfl⟩:∃ k',k=k' + 1:=⟨k - 1,by omega⟩
    obtain rfl:i=n:=by omega
    rw [he k s hI,show w7 p i=true from y6.2 hp];rfl
  | succ d ih=>
    intro k i s hd hk hI hp
    obtain ⟨k,rfl⟩:∃ k',k=k' + 1:=⟨k - 1,by omega⟩
    cases hpi:p i with
    | true=>
      obtain ⟨s',h1,h2⟩:=hs k i s (by omega) hI hpi
      rw [h2]
      refine ih k (i + 1) s' (by omega) (by omega) h1 ?_
      intro j hj
      by_cases e:j=i
      · subst e;exact hpi
      · exact hp j (by omega)
    | false=>
      rw [hb k i s (by omega) hI hpi]
      have:w7 p n=false:=by
       rw [Bool.eq_false_iff];intro h
       have:=y6.1 h i (by omega);rw [hpi] at this;cases this
      rw [this];rfl
 intro k s0 hk hI
 exact key n k 0 s0 (by omega) hk hI (by simp)
theorem u9 {α:Type} {xs:List α} {y:α} (h:xs.length < 1099511627776):vz xs [y]=some (xs++[y]):=by
 unfold vz
 rw [if_pos]
 have:(2:Nat) ^ 40=1099511627776:=by decide
 simp;omega
theorem Mh {β σ:Type} {L:Nat→Int→σ→Option β} {n:Nat} (I:Nat→σ→Prop) {fin:σ→Option β}
    (hs:∀ k i s,i < n→I i s→∃ s',I (i + 1) s'∧L (k + 1) (i:Int) s=L k ((i + 1:Nat):Int) s') (he:∀ k s,I n s→L (k + 1) (n:Int) s=fin s) :
    ∀ k s0,n < k→I 0 s0→∃ s,I n s∧L k 0 s0=fin s:=by
 have key:∀ d k i s,i + d=n→d < k→I i s→∃ s',I n s'∧L k (i:Int) s=fin s':=by
  intro d
  induction d with
  | zero=>
    intro k i s hi hk hI
    obtain ⟨k,rfl⟩:∃ k',k=k' + 1:=⟨k - 1,by omega⟩
    obtain rfl:i=n:=by omega
    exact ⟨s,hI,he k s hI⟩
  | succ d ih=>
    intro k i s hd hk hI
    obtain ⟨k,rfl⟩:∃ k',k=k' + 1:=⟨k - 1,by omega⟩
    obtain ⟨s',h1,h2⟩:=hs k i s (by omega) hI
    rw [h2]
    exact ih k (i + 1) s' (by omega) (by omega) h1
 intro k s0 hk hI
 exact key n k 0 s0 (by omega) hk hI
theorem w1:w64 1=1:=by decide
theorem w2:w64 2=2:=by decide
theorem KK {n:Nat} (h:n < 9223372036854775808):w64 (n:Int)=n:=xw (by omega) (by omega)
theorem Ju (n:Nat) (h:n < 9223372036854775808):(BitVec.ofInt (IntKind.bits .i64) (n:Int)).toNat=n:=by
 show (BitVec.ofInt 64 (n:Int)).toNat=n
 rw [BitVec.ofInt_natCast,BitVec.toNat_ofNat]
 exact Nat.mod_eq_of_lt (by omega)
theorem XW {a b:Nat} (ha:a < 9223372036854775808) (hb:b < 9223372036854775808):ior .i64 a b=((a ||| b:Nat):Int):=by
 unfold ior
 rw [BitVec.toNat_or,Ju a ha,Ju b hb]
 exact KK (Nat.or_lt_two_pow (n:=63) ha hb)
theorem zhr {a b:Nat} (ha:a < 9223372036854775808) (hb:b < 9223372036854775808):yO .i64 a b=((a &&& b:Nat):Int):=by
 unfold yO
 rw [BitVec.toNat_and,Ju a ha,Ju b hb]
 exact KK (Nat.and_lt_two_pow (n:=63) a hb)
theorem ziC {a b:Nat} (ha:a < 9223372036854775808) (hb:b < 9223372036854775808):Yo .i64 a b=((a ^^^ b:Nat):Int):=by
 unfold Yo
 rw [BitVec.toNat_xor,Ju a ha,Ju b hb]
 exact KK (Nat.xor_lt_two_pow (n:=63) ha hb)
theorem YO {a b:Nat} (ha:a < 9223372036854775808) (hb:b < 9223372036854775808):∃ c:Nat,yS .i64 a b=(c:Int)∧c≤a∧∀ j,c.testBit j=(a.testBit j && !b.testBit j):=by
 refine ⟨a &&& (18446744073709551615 - b),?_,Nat.and_le_left,?_⟩
 · unfold yS
   rw [BitVec.toNat_and,BitVec.toNat_not,Ju a ha,Ju b hb]
   have e:(2:Nat) ^ (IntKind.bits .i64) - 1 - b=18446744073709551615 - b:=rfl
   rw [e]
   exact KK (Nat.lt_of_le_of_lt Nat.and_le_left ha)
 · intro j
   rw [Nat.testBit_and]
   have e:18446744073709551615 - b=2 ^ 64 - (b + 1):=by
    have:(2:Nat) ^ 64=18446744073709551616:=by decide
    omega
   rw [e,Nat.testBit_two_pow_sub_succ (by have:(2:Nat) ^ 64=18446744073709551616:=by decide
                                          omega)]
   by_cases hj:j < 64
   · simp [hj]
   · have:a.testBit j=false:=Nat.testBit_lt_two_pow (vq ha (vx (n:=2) (by decide) (show 63≤j by omega)))
     simp [this]
theorem zj2 {a j:Nat} (hj:j≤62) (ha:a * 2 ^ j < 9223372036854775808):Wc .i64 (a:Int) (j:Int)=some (((a * 2 ^ j:Nat)):Int):=by
 unfold Wc
 rw [if_neg (by omega)]
 have e:(min (j:Int).toNat (IntKind.bits .i64))=j:=by
  simp only [yi]
  exact Nat.min_eq_left (by show j≤64;omega)
 rw [e]
 have:=KK ha
 rw [show ((a:Int) * 2 ^ j)=((a * 2 ^ j:Nat):Int) by simp]
 rw [show IntKind.i64.wrap ((a * 2 ^ j:Nat):Int)=w64 ((a * 2 ^ j:Nat):Int) from rfl,this]
theorem Zr {j:Nat} (hj:j≤62):Wc .i64 1 (j:Int)=some ((2 ^ j:Nat):Int):=by
 have h:1 * 2 ^ j < 9223372036854775808:=by
  have:=vx (n:=2) (by decide) hj
  have e:(2:Nat) ^ 62=4611686018427387904:=by decide
  omega
 have:=zj2 (a:=1) hj h
 simpa using this
theorem zfu {a j:Nat}:U4 .i64 (a:Int) (j:Int)=some ((a / 2 ^ (min j 64):Nat):Int):=by
 unfold U4
 rw [if_neg (by omega)]
 simp only [yi]
 have:(IntKind.bits .i64)=64:=rfl
 rw [this]
 rw [Int.fdiv_eq_ediv_of_nonneg _ (by exact_mod_cast Nat.zero_le _)]
 simp
theorem Zl {j:Nat} (hj:j≤62):(2:Nat) ^ j < 9223372036854775808:=by
 have:=vx (n:=2) (by decide) hj
 have e:(2:Nat) ^ 62=4611686018427387904:=by decide
 omega
def zdM (m:Nat) (p:Nat→Bool):Prop:=m < 9223372036854775808∧∀ j,m.testBit j=p j
theorem zdW {n:Nat} (hn:n≤62):zdM (2 ^ n - 1) (fun j=>decide (j < n)):=
 ⟨by have:=Zl hn;omega,fun j=>by rw [Nat.testBit_two_pow_sub_one]⟩
theorem JB:∀ (n:Nat) (l:List Int),(∀ j,j < n→(j:Int)∈l)→n≤l.length∧(l.length=n→∀ y∈l,0≤y∧y < n)
 | 0,l,_=>⟨Nat.zero_le _,fun h y hy=>by rw [List.length_eq_zero_iff.1 h] at hy;cases hy⟩
 | n + 1,l,h=>by
   have hn:=h n (by omega)
   have hp:=List.length_pos_of_mem hn
   have ih:=JB n (l.erase (n:Int)) (fun j hj=>(List.mem_erase_of_ne (by omega)).2 (h j (by omega)))
   rw [List.length_erase_of_mem hn] at ih
   refine ⟨by omega,fun hl y hy=>?_⟩
   by_cases e:y=n
   · subst e;omega
   · have:=ih.2 (by omega) y ((List.mem_erase_of_ne e).2 hy)
     omega
theorem zbq {m j:Nat} (hm:m < 9223372036854775808) (hj:j≤62):∃ q:Int,U4 .i64 (m:Int) (j:Int)=some q∧(yO .i64 q 1 == 1)=m.testBit j∧(yO .i64 q 1 == 0)=!m.testBit j:=by
 refine ⟨_,zfu,?_⟩
 have e:min j 64=j:=by omega
 rw [e]
 have hq:m / 2 ^ j < 9223372036854775808:=Nat.lt_of_le_of_lt (Nat.div_le_self _ _) hm
 have:=zhr hq (b:=1) (by omega)
 rw [show ((1:Nat):Int)=1 from rfl] at this
 rw [this,Nat.and_one_is_mod]
 have hb:m.testBit j=decide (m / 2 ^ j % 2=1):=by
  rw [Nat.testBit_eq_decide_div_mod_eq]
 rw [hb]
 have h2:=Nat.mod_two_eq_zero_or_one (m / 2 ^ j)
 rcases h2 with h2 | h2 <;> simp [h2]
abbrev Gr:=Int×List (Int×Int)
theorem LD {F:Nat} {n lo hi:Int}:Y4 F n lo hi=some (decide (lo≤n) && decide (n≤hi)):=by
 unfold Y4
 by_cases h:n≥lo
 · simp [h]
 · have:¬ lo≤n:=h
   simp [this]
theorem Q2 {F:Nat} {n lo hi:Int}:WX F n lo hi=some (decide (lo≤n) && decide (n≤hi)):=by
 unfold WX
 by_cases h:n≥lo
 · simp [h]
 · have:¬ lo≤n:=h
   simp [this]
def bef (a b:Int×Int):Bool:=decide (a.1 < b.1) || (a.1 == b.1) && decide (a.2 < b.2)
theorem Ja {F:Nat} {a b:Int×Int}:ZK F a b=some (bef a b):=by
 unfold ZK bef
 by_cases h:a.1 < b.1
 · simp [h]
 · cases e:(a.1 == b.1) <;> simp [h]
theorem zmQ {F:Nat} {x y:Int}:vd F x y=some (if x < y then -1 else if x > y then 1 else 0):=by
 unfold vd ur
 by_cases h:x < y
 · simp [h]
 · by_cases h2:y < x <;> simp [h,h2]
theorem zkd {F:Nat} {a b:Int×Int} (hF:3≤F):∃ r,vG F [a.1,a.2] [b.1,b.2]=some r∧(decide (r≥0)=!bef a b):=by
 obtain ⟨k,rfl⟩:∃ k,F=k + 3:=⟨F - 3,by omega⟩
 obtain ⟨a1,a2⟩:=a
 obtain ⟨b1,b2⟩:=b
 unfold vG
 simp only [ub,zmQ,bef]
 by_cases h1:a1 < b1
 · refine ⟨-1,?_,?_⟩ <;> simp [idx,h1]
 · by_cases h2:b1 < a1
   · have e:¬ a1=b1:=by omega
     refine ⟨1,?_,?_⟩
     · simp [idx,h1,h2]
     · simp [h1,e]
   · obtain rfl:a1=b1:=by omega
     by_cases h3:a2 < b2
     · refine ⟨-1,?_,?_⟩ <;> simp [idx,h3,w1]
     · by_cases h4:b2 < a2
       · refine ⟨1,?_,?_⟩ <;> simp [idx,h3,h4,w1]
       · obtain rfl:a2=b2:=by omega
         refine ⟨0,?_,?_⟩ <;> simp [idx,w1,w2]
def okE (n:Int) (es:List (Int×Int)) (i:Nat):Bool:=
 decide (0≤(es.getD i (0,0)).1) && decide ((es.getD i (0,0)).1 < (es.getD i (0,0)).2) && decide ((es.getD i (0,0)).2 < n) && (i == 0 || bef (es.getD (i - 1) (0,0)) (es.getD i (0,0)))
def yD (g:Gr):Bool:=decide (0≤g.1) && decide (g.1≤8) && w7 (okE g.1 g.2) g.2.length
theorem Yj {F:Nat} {g:Gr} (hF:g.2.length < F) (h3:3≤F) (hl:Sm g.2.length):vw F g=some (yD g):=by
 unfold vw
 rw [LD,zb]
 unfold yD
 by_cases h:0≤g.1∧g.1≤8
 · simp only [h.1,h.2,decide_true,w5,ye,zh,zL]
   rw [uJ (L:=fun k i=>xc F g k i) (n:=g.2.length) (p:=okE g.1 g.2) (bad:=some false) (fin:=some true) ?_ ?_ F hF]
   · cases w7 (okE g.1 g.2) g.2.length <;> rfl
   · intro k i hi
     simp only [xc,ui]
     rw [zT (d:=(0,0)) hi,yd hi hl]
     have hlt:decide ((i:Int) < g.2.length)=true:=by simp [hi]
     simp only [hlt,zk,zb,okE]
     generalize g.2.getD i (0,0)=e
     by_cases h1:e.1 < 0
     · have:¬ 0≤e.1:=by omega
       simp [h1,this]
     · by_cases h2:e.1≥e.2
       · have:¬ e.1 < e.2:=by omega
         simp [h1,h2,this]
       · by_cases h4:e.2≥g.1
         · have:¬ e.2 < g.1:=by omega
           simp [h1,h2,h4,this]
         · have a1:0≤e.1:=by omega
           have a2:e.1 < e.2:=by omega
           have a3:e.2 < g.1:=by omega
           simp only [h1,h2,h4,a1,a2,a3,decide_true,decide_false,zh,w5,zL]
           by_cases h5:i=0
           · subst h5;simp
           · have h6:decide ((i:Int) > 0)=true:=by simp;omega
             have h7:(i == 0)=false:=by simpa using h5
             rw [h6,zk,zb9 (by omega) hi hl,zT (d:=(0,0)) (by omega),h7]
             obtain ⟨r,hr,hr2⟩:=zkd (F:=F) (a:=g.2.getD (i - 1) (0,0)) (b:=e) h3
             simp only [zb,hr,hr2,Bool.false_or]
             cases bef (g.2.getD (i - 1) (0,0)) e <;> rfl
   · intro k;simp [xc]
 · have:(decide (0≤g.1) && decide (g.1≤8))=false:=by
    rw [Bool.eq_false_iff];intro h';apply h;simpa using h'
   simp [this]
theorem YF {F:Nat} {g:Gr} (hF:g.2.length < F) (hl:Sm g.2.length):ug F g=some (yD g):=by
 unfold ug
 let p:Nat→Bool:=fun i=>decide (0≤(g.2.getD i (0,0)).1) && decide ((g.2.getD i (0,0)).1≤w64 (g.1 - 1)) && (decide (0≤(g.2.getD i (0,0)).2) && decide ((g.2.getD i (0,0)).2≤w64 (g.1 - 1))) && decide ((g.2.getD i (0,0)).1 < (g.2.getD i (0,0)).2) && (i == 0 || bef (g.2.getD (i - 1) (0,0)) (g.2.getD i (0,0)))
 rw [uJ (L:=fun k i=>xu F g k i) (n:=g.2.length) (p:=p) (bad:=some false) (fin:=some (decide (0≤g.1) && decide (g.1≤8))) ?_ ?_ F hF]
 · unfold yD
   by_cases h:0≤g.1∧g.1≤8
   · have hw:w64 (g.1 - 1)=g.1 - 1:=xw (by omega) (by omega)
     rw [MF (q:=okE g.1 g.2)]
     · cases w7 (okE g.1 g.2) g.2.length <;> simp [h.1,h.2]
     · intro i _
       simp only [p,okE,hw]
       generalize g.2.getD i (0,0)=e
       generalize (i == 0 || bef (g.2.getD (i - 1) (0,0)) e)=b
       rw [yM]
       simp only [zq,yn]
       constructor
       · rintro ⟨⟨⟨⟨a1,a2⟩,a3,a4⟩,a5⟩,a6⟩;exact ⟨⟨⟨a1,a5⟩,by omega⟩,a6⟩
       · rintro ⟨⟨⟨a1,a5⟩,a4⟩,a6⟩;exact ⟨⟨⟨⟨a1,by omega⟩,by omega,by omega⟩,a5⟩,a6⟩
   · have:(decide (0≤g.1) && decide (g.1≤8))=false:=by
      rw [Bool.eq_false_iff];intro h';apply h;simpa using h'
     rw [this];cases w7 p g.2.length <;> rfl
 · intro k i hi
   simp only [xu,uR,Q2,zb]
   rw [zT (d:=(0,0)) hi,yd hi hl]
   have hlt:decide ((i:Int) < g.2.length)=true:=by simp [hi]
   simp only [hlt,zk,zb,p]
   generalize g.2.getD i (0,0)=e
   generalize (decide (0≤e.1) && decide (e.1≤w64 (g.1 - 1)))=b1
   generalize (decide (0≤e.2) && decide (e.2≤w64 (g.1 - 1)))=b2
   cases b1
   · rfl
   cases b2
   · rfl
   by_cases h2:e.1≥e.2
   · have:¬ e.1 < e.2:=by omega
     simp [h2,this]
   · have:e.1 < e.2:=by omega
     simp only [ye,zh,h2,this,decide_true,decide_false,w5,zL]
     by_cases h5:i=0
     · subst h5;simp
     · have h6:decide ((i:Int) > 0)=true:=by simp;omega
       have h7:(i == 0)=false:=by simpa using h5
       rw [h6,zk,zb9 (by omega) hi hl,zT (d:=(0,0)) (by omega),h7]
       simp only [zb,Ja,Bool.false_or]
       cases bef (g.2.getD (i - 1) (0,0)) e <;> rfl
 · intro k;simp [xu,Q2]
theorem yl {g:Gr} (h:yD g=true):0≤g.1∧g.1≤8:=by
 unfold yD at h
 simp only [zq,yn] at h
 exact h.1
theorem M9 {F:Nat} {l:List Int} {n:Int} (hF:l.length < F) (hl:Sm l.length):wI F l n=some (decide (n∈l)):=by
 unfold wI
 rw [uJ (L:=fun k i=>Yi F l n k i) (n:=l.length) (p:=fun i=>!(l.getD i 0 == n)) (bad:=some true) (fin:=some false) ?_ ?_ F hF]
 · by_cases h:n∈l
   · have:w7 (fun i=>!(l.getD i 0 == n)) l.length=false:=by
      rw [Bool.eq_false_iff];intro h'
      obtain ⟨i,hi,e⟩:=Yb.1 h
      have:=y6.1 h' i hi
      simp [zZ,hi,e] at this
     rw [this];simp [h]
   · have:w7 (fun i=>!(l.getD i 0 == n)) l.length=true:=by
      rw [y6];intro i hi
      simp only [zZ,yL hi,xa,yE,beq_eq_false_iff_ne]
      intro e;exact h (e ▸ Xc hi)
     rw [this];simp [h]
 · intro k i hi
   simp only [Yi]
   rw [zT (d:=0) hi,yd hi hl]
   have hlt:decide ((i:Int) < l.length)=true:=by simp [hi]
   simp only [hlt,zk,zb]
   cases (l.getD i 0 == n) <;> rfl
 · intro k;simp [Yi]
def uM (n:Int) (l:List Int):Bool:=decide ((l.length:Int)=n) && w7 (fun j=>decide ((j:Int)∈l)) n.toNat
theorem Qp {F:Nat} {g:Gr} {l:List Int} (h0:0≤g.1) (h8:g.1≤8) (hF:l.length < F) (h9:9≤F) (hl:Sm l.length):Wh F g l=some (uM g.1 l):=by
 unfold Wh
 obtain ⟨n,hn⟩:∃ n:Nat,g.1=n:=⟨g.1.toNat,by omega⟩
 rw [uJ (L:=fun k i=>Zx F l g k i) (n:=n) (p:=fun j=>decide ((j:Int)∈l)) (bad:=some false) (fin:=some ((l.length:Int) == n)) ?_ ?_ F (by omega)]
 · unfold uM
   rw [hn]
   simp only [yi]
   cases w7 (fun j=>decide ((j:Int)∈l)) n <;> simp
   rfl
 · intro k i hi
   simp only [Zx,M9 hF hl,hn]
   rw [yd hi (by unfold Sm;omega)]
   have hlt:decide ((i:Int) < (n:Int))=true:=by simp [hi]
   simp only [hlt,zk,zb]
   cases decide ((i:Int)∈l) <;> rfl
 · intro k;simp [Zx,hn]
theorem zbB {F:Nat} {l:List Int} {lo hi:Int} (hF:l.length < F) (hl:Sm l.length):Zy F l lo hi=some (l.all fun x=>decide (lo≤x) && decide (x≤hi)):=by
 unfold Zy
 rw [uJ (L:=fun k i=>vD F lo hi l k i) (n:=l.length) (p:=fun i=>decide (lo≤l.getD i 0) && decide (l.getD i 0≤hi)) (bad:=some false) (fin:=some true) ?_ ?_ F hF]
 · have:w7 (fun i=>decide (lo≤l.getD i 0) && decide (l.getD i 0≤hi)) l.length=l.all fun x=>decide (lo≤x) && decide (x≤hi):=by
    rw [yM,y6,yw]
    constructor
    · intro h x hx
      obtain ⟨i,hi,rfl⟩:=Yb.1 hx
      have:=h i hi
      simpa [zZ,hi] using this
    · intro h i hi
      simpa [zZ,hi] using h l[i] (Xc hi)
   rw [this];cases (l.all fun x=>decide (lo≤x) && decide (x≤hi)) <;> rfl
 · intro k i hi
   simp only [vD,LD]
   rw [zT (d:=0) hi,yd hi hl]
   have hlt:decide ((i:Int) < l.length)=true:=by simp [hi]
   simp only [hlt,zk,zb]
   cases (decide (lo≤l.getD i 0) && decide (l.getD i 0≤_)) <;> rfl
 · intro k;simp [vD]
theorem zgc {F:Nat} {l:List Int} (hF:l.length < F) (hl:Sm l.length) (h:∀ x∈l,0≤x∧x≤62):∃ m:Nat,Wt F l=some (m:Int)∧zdM m (fun j=>decide ((j:Int)∈l)):=by
 unfold Wt
 have key:∃ s:Int,(∃ m:Nat,s=(m:Int)∧m < 9223372036854775808∧∀ j,m.testBit j=decide ((j:Int)∈l.take l.length))∧uN F l F 0 0=some s:=by
  refine Exists.imp (fun s h=>⟨h.1,h.2.1⟩) (zgi (L:=fun k i s=>uN F l k s i) (n:=l.length) (fun i s=>∃ m:Nat,s=(m:Int)∧m < 9223372036854775808∧∀ j,m.testBit j=decide ((j:Int)∈l.take i)) (fin:=fun s=>some s)
   (fun i s=>ior .i64 s ((2 ^ (l.getD i 0).toNat:Nat):Int)) ?_ ?_ ?_ F 0 hF ⟨0,rfl,by omega,by simp⟩)
  · rintro k i s hi ⟨m,rfl,hm1,hm2⟩
    simp only [uN]
    rw [zT (d:=0) hi,yd hi hl]
    have hlt:decide ((i:Int) < l.length)=true:=by simp [hi]
    simp only [hlt,zk,zb]
    have hx:=h (l.getD i 0) (by rw [zZ,yL hi];exact Xc hi)
    obtain ⟨x,hx'⟩:∃ x:Nat,l.getD i 0=x:=⟨(l.getD i 0).toNat,by omega⟩
    rw [hx',Zr (by omega)];simp
  · rintro i s hi ⟨m,rfl,hm1,hm2⟩
    have hx:=h (l.getD i 0) (by rw [zZ,yL hi];exact Xc hi)
    obtain ⟨x,hx'⟩:∃ x:Nat,l.getD i 0=x:=⟨(l.getD i 0).toNat,by omega⟩
    rw [hx',yi,XW hm1 (Zl (by omega))]
    refine ⟨_,rfl,Nat.or_lt_two_pow (n:=63) hm1 (Zl (by omega)),fun j=>?_⟩
    rw [ZN,hm2,Z2,List.take_add_one,yL hi]
    have:l[i]=x:=by rw [← hx',zZ,yL hi];rfl
    rw [yM]
    simp [this]
    constructor
    · rintro (h | h)
      · exact .inl h
      · exact .inr (by omega)
    · rintro (h | h)
      · exact .inl h
      · exact .inr (by omega)
  · rintro k s ⟨m,rfl,hm1,hm2⟩
    simp [uN]
 obtain ⟨s,⟨m,rfl,hm1,hm2⟩,h2⟩:=key
 exact ⟨m,h2,hm1,by simpa using hm2⟩
theorem Nc {F:Nat} {g:Gr} {l:List Int} (h0:0≤g.1) (h8:g.1≤8) (hF:l.length < F) (hl:Sm l.length):Zi F g l=some (uM g.1 l):=by
 unfold Zi uM
 obtain ⟨n,hn⟩:∃ n:Nat,g.1=n:=⟨g.1.toNat,by omega⟩
 have hw:w64 (g.1 - 1)=g.1 - 1:=xw (by omega) (by omega)
 rw [zbB hF hl,hw,hn]
 by_cases e:l.length=n
 · have e':((l.length:Int) == (n:Int))=true:=by simp [e]
   simp only [e',zk,zb,yi]
   by_cases ha:(l.all fun x=>decide (0≤x) && decide (x≤(n:Int) - 1))=true
   · rw [ha,zk]
     have ha':∀ x∈l,0≤x∧x≤62:=by
      intro x hx;have:=yw.1 ha x hx;simp at this;omega
     obtain ⟨m,hm,hmask⟩:=zgc hF hl ha'
     rw [hm,zb,Zr (by omega),zb]
     have hw2:w64 (((2 ^ n:Nat):Int) - 1)=((2 ^ n - 1:Nat):Int):=by
      have:=Zl (j:=n) (by omega)
      have:0 < 2 ^ n:=w4 n
      rw [xw (by omega) (by omega)];omega
     rw [hw2]
     congr 1
     rw [yM]
     have hall:=zdW (n:=n) (by omega)
     simp only [yA,zq,yn,y6]
     constructor
     · intro h
       have h':m=2 ^ n - 1:=by omega
       refine ⟨by omega,fun j hj=>?_⟩
       have:=hmask.2 j
       rw [h',hall.2] at this
       simpa [hj] using this.symm
     · rintro ⟨_,h⟩
       have:m=2 ^ n - 1:=by
        apply wQ
        intro j
        rw [hmask.2,hall.2]
        by_cases hj:j < n
        · simp [hj,h j hj]
        · simp only [hj,decide_false,decide_eq_false_iff_not]
          intro hm'
          have:=yw.1 ha _ hm'
          simp at this;omega
       rw [this]
   · rw [Bool.not_eq_true] at ha
     rw [ha,zh]
     congr 1
     symm
     rw [Bool.eq_false_iff];intro h
     simp only [zq,yn,y6] at h
     have:=(JB n l h.2).2 e
     have h2:(l.all fun x=>decide (0≤x) && decide (x≤(n:Int) - 1))=true:=by
      rw [yw];intro x hx;have:=this x hx;simp;omega
     rw [ha] at h2;cases h2
 · have e':((l.length:Int) == (n:Int))=false:=by simp;omega
   have e2:decide ((l.length:Int)=(n:Int))=false:=by simp;omega
   rw [e',e2];simp
theorem zkK {F:Nat} {a b:Int}:YX F a b=some (max a b):=by
 unfold YX
 by_cases h:a > b
 · simp [h];omega
 · simp [h];omega
theorem zmm {n:Int} {es:List (Int×Int)} (h:w7 (okE n es) es.length=true) {i:Nat} (hi:i < es.length):0≤(es.getD i (0,0)).1∧(es.getD i (0,0)).1 < (es.getD i (0,0)).2∧(es.getD i (0,0)).2 < n:=by
 have:=y6.1 h i hi
 unfold okE at this
 simp only [zq,yn] at this
 exact ⟨this.1.1.1,this.1.1.2,this.1.2⟩
theorem N9 {g:Gr} (h:yD g=true) {i:Nat} (hi:i < g.2.length):0≤(g.2.getD i (0,0)).1∧(g.2.getD i (0,0)).1 < (g.2.getD i (0,0)).2∧(g.2.getD i (0,0)).2 < g.1:=by
 unfold yD at h
 simp only [zq] at h
 exact zmm h.2 hi
theorem K1 {n:Int} {l:List Int} (h:uM n l=true) {x:Int} (h0:0≤x) (hx:x < n):x∈l:=by
 unfold uM at h
 simp only [zq,y6,yn] at h
 have:=h.2 x.toNat (by omega)
 rwa [Int.toNat_of_nonneg h0] at this
theorem Yv {n:Int} {l:List Int} (h:uM n l=true):(l.length:Int)=n:=by
 unfold uM at h
 simp only [zq,yn] at h
 exact h.1
theorem Lz {α:Type} {xs:List α} {i j:Nat} {a d:α} (hi:i < xs.length):(xs.set i a).getD j d=if i=j then a else xs.getD j d:=by
 rw [zZ,List.getElem?_set,zZ]
 split
 · rename_i e;subst e;simp [hi]
 · rfl
def par (ps:List Int) (x:Int):Int:=ps.getD x.toNat (-1)
def zk1 (ps:List Int):Nat→Int→List Int
 | 0,_=>[]
 | d + 1,x=>if 0≤par ps x then par ps x :: zk1 ps d (par ps x) else []
def zwu (n:Nat) (ps:List Int) (x:Int):Bool:=decide ((zk1 ps (n + 1) x).length < n)
def mkm (p:Nat→Bool):Nat→Nat
 | 0=>0
 | n + 1=>mkm p n ||| (if p n then 2 ^ n else 0)
theorem yh {p:Nat→Bool}:∀ (n j:Nat),(mkm p n).testBit j=(decide (j < n) && p j)
 | 0,j=>by simp [mkm]
 | n + 1,j=>by
   rw [mkm,ZN,yh n j]
   by_cases hp:p n=true
   · rw [if_pos hp,Z2]
     by_cases e:n=j
     · subst e;simp [hp]
     · have h1:decide (n=j)=false:=by simpa using e
       have h2:decide (j < n + 1)=decide (j < n):=by
        rw [yM];simp;omega
       rw [h1,h2];simp
   · rw [if_neg hp,xH]
     rw [Bool.not_eq_true] at hp
     by_cases e:n=j
     · subst e;simp [hp]
     · have h2:decide (j < n + 1)=decide (j < n):=by
        rw [yM];simp;omega
       rw [h2];simp
theorem Kf {p:Nat→Bool} {n:Nat}:mkm p n < 2 ^ n:=by
 apply Nat.lt_pow_two_of_testBit
 intro j hj
 rw [yh]
 have:decide (j < n)=false:=by simp;omega
 rw [this];rfl
theorem ww {p:Nat→Bool} {n:Nat} (h:n≤62):mkm p n < 9223372036854775808:=Nat.lt_trans Kf (Zl h)
theorem wD {p q:Nat→Bool} {n:Nat} (h:∀ j,j < n→p j=q j):mkm p n=mkm q n:=by
 apply wQ;intro j
 rw [yh,yh]
 by_cases hj:j < n
 · rw [h j hj]
 · simp [hj]
theorem W4 {p:Nat→Bool} {n m:Nat} (hm:∀ j,m.testBit j=(decide (j < n) && p j)):m=mkm p n:=by
 apply wQ;intro j;rw [hm,yh]
def Z3 (g:Gr) (a b:Nat) (i:Nat):Bool:=((g.2.getD i (0,0)).1 == (a:Int) && (g.2.getD i (0,0)).2 == (b:Int)) || ((g.2.getD i (0,0)).1 == (b:Int) && (g.2.getD i (0,0)).2 == (a:Int))
def adj (g:Gr) (a b:Nat):Bool:=ve (Z3 g a b) g.2.length
theorem zdi {g:Gr} {a b i:Nat}:Z3 g a b i=Z3 g b a i:=by unfold Z3;rw [Bool.or_comm]
theorem zct {g:Gr} {a b:Nat}:adj g a b=adj g b a:=MQ fun _ _=>zdi
theorem Jp {g:Gr} (hg:yD g=true) {a b:Nat} (h:adj g a b=true):(a:Int) < g.1∧(b:Int) < g.1∧a≠b:=by
 unfold adj at h
 obtain ⟨i,hi,h⟩:=uj.1 h
 obtain ⟨e1,e2,e3⟩:=N9 hg hi
 unfold Z3 at h
 simp only [yU,zq,yA] at h
 omega
theorem Ma {F:Nat} {g:Gr} {a b:Nat} (hF:g.2.length < F) (hs:Sm g.2.length):Z4 F g (a:Int) (b:Int)=some (adj g a b):=by
 unfold Z4
 rw [uJ (L:=fun k i=>xq F (a:Int) (b:Int) g k i) (n:=g.2.length) (p:=fun i=>!Z3 g a b i) (bad:=some true) (fin:=some false) ?_ ?_ F hF]
 · unfold adj;rw [Ko];cases w7 (fun i=>!Z3 g a b i) g.2.length <;> rfl
 · intro k i hi
   simp only [xq,uO]
   rw [zT (d:=(0,0)) hi,yd hi hs]
   have hlt:decide ((i:Int) < g.2.length)=true:=by simp [hi]
   rw [hlt,zk,zb]
   unfold Z3
   generalize g.2.getD i (0,0)=e
   generalize (e.1 == (a:Int))=b1
   generalize (e.2 == (b:Int))=b2
   generalize (e.1 == (b:Int))=b3
   generalize (e.2 == (a:Int))=b4
   cases b1 <;> cases b2 <;> cases b3 <;> cases b4 <;> rfl
 · intro k;simp [xq]
def xQ (g:Gr):List Int:=(List.range g.1.toNat).map fun x=>((mkm (adj g x) g.1.toNat:Nat):Int)
theorem Zf {g:Gr}:(xQ g).length=g.1.toNat:=by simp [xQ]
theorem JG {g:Gr} {x:Nat} (h:x < g.1.toNat):(xQ g).getD x 0=((mkm (adj g x) g.1.toNat:Nat):Int):=by
 simp [xQ,zZ,h]
theorem WD {F:Nat} {g:Gr} (hg:yD g=true) (hF:g.2.length < F) (hs:Sm g.2.length):ZQ F g=some ⟨xQ g⟩:=by
 have h8:=yl hg
 obtain ⟨n,hn⟩:∃ n:Nat,g.1=n:=⟨g.1.toNat,by omega⟩
 unfold ZQ
 rw [hn,za7 (by omega),zb]
 refine xA (L:=fun k i s=>Yr F g k s i) (n:=g.2.length) (fun i w=>w.length=n∧∀ x,x < n→∃ m:Nat,w.getD x 0=(m:Int)∧zdM m (fun j=>ve (Z3 g x j) i)) ?_ ?_ F _ hF ?_
 · intro k i w hi ⟨hl,hw⟩
   obtain ⟨e1,e2,e3⟩:=N9 hg hi
   simp only [Yr]
   rw [zT (d:=(0,0)) hi,yd hi hs]
   have hlt:decide ((i:Int) < g.2.length)=true:=by simp [hi]
   rw [hlt,zk,zb]
   obtain ⟨a,ha⟩:∃ a:Nat,(g.2.getD i (0,0)).1=a:=⟨(g.2.getD i (0,0)).1.toNat,by omega⟩
   obtain ⟨b,hb⟩:∃ b:Nat,(g.2.getD i (0,0)).2=b:=⟨(g.2.getD i (0,0)).2.toNat,by omega⟩
   have hj:∀ x j,Z3 g x j i=((x == a && j == b) || (x == b && j == a)):=by
    intro x j
    unfold Z3
    rw [ha,hb,yM]
    simp
    omega
   rw [ha] at e1 e2 ⊢
   rw [hb] at e2 e3 ⊢
   obtain ⟨ma,hma,hma2⟩:=hw a (by omega)
   obtain ⟨mb,hmb,hmb2⟩:=hw b (by omega)
   have ia:idx w (a:Int)=some (ma:Int):=by rw [zT (d:=0) (by omega),hma]
   rw [ia,zb,Zr (by omega),zb,zb,XW hma2.1 (Zl (by omega)),yi]
   have ib:idx (w.set a ((ma ||| 2 ^ b:Nat):Int)) (b:Int)=some (mb:Int):=by
    rw [zT (d:=0) (by simp;omega),Lz (by omega),if_neg (by omega),hmb]
   rw [ib,zb,Zr (by omega),zb,zb,XW hmb2.1 (Zl (by omega)),yi]
   refine ⟨_,⟨by simp [hl],?_⟩,rfl⟩
   intro x hx
   rw [Lz (by simp;omega),Lz (by omega)]
   by_cases exb:b=x
   · subst exb
     rw [if_pos rfl]
     refine ⟨_,rfl,Nat.or_lt_two_pow (n:=63) hmb2.1 (Zl (by omega)),fun j=>?_⟩
     rw [ZN,hmb2.2,Z2]
     show (ve (Z3 g b j) i || decide (a=j))=(ve (Z3 g b j) i || Z3 g b j i)
     rw [hj]
     congr 1
     rw [yM];simp;omega
   · rw [if_neg exb]
     by_cases exa:a=x
     · subst exa
       rw [if_pos rfl]
       refine ⟨_,rfl,Nat.or_lt_two_pow (n:=63) hma2.1 (Zl (by omega)),fun j=>?_⟩
       rw [ZN,hma2.2,Z2]
       show (ve (Z3 g a j) i || decide (b=j))=(ve (Z3 g a j) i || Z3 g a j i)
       rw [hj]
       congr 1
       rw [yM];simp;omega
     · rw [if_neg exa]
       obtain ⟨m,h1,h2⟩:=hw x hx
       refine ⟨m,h1,h2.1,fun j=>?_⟩
       rw [h2.2]
       show ve (Z3 g x j) i=(ve (Z3 g x j) i || Z3 g x j i)
       have:Z3 g x j i=false:=by
        rw [hj,Bool.eq_false_iff];intro h;simp at h;omega
       rw [this,wy]
 · intro k w ⟨hl,hw⟩
   simp only [Yr]
   have hlt:decide ((g.2.length:Int) < g.2.length)=false:=by simp
   rw [hlt,zh]
   have:w=xQ g:=by
    apply List.ext_getElem (by rw [hl,Zf,hn];simp)
    intro x h1 h2
    obtain ⟨m,h3,h4⟩:=hw x (by omega)
    have h5:=JG (g:=g) (x:=x) (by rw [Zf] at h2;exact h2)
    rw [zZ,yL h1] at h3
    rw [zZ,yL h2] at h5
    simp at h3 h5
    rw [h3,h5]
    congr 1
    refine W4 fun j=>?_
    rw [h4.2,hn,yi]
    by_cases hj:j < n
    · simp [hj,adj]
    · have:adj g x j=false:=by
       rw [Bool.eq_false_iff];intro h;have:=Jp hg h;omega
      simp only [hj,decide_false,wZ];exact this
   rw [this]
 · refine ⟨by simp,fun x hx=>⟨0,by simp [zZ,hx],by omega,fun j=>by simp [ve]⟩⟩
def zkN (g:Gr) (p:Nat→Bool) (j:Nat):Bool:=p j || ve (fun x=>p x && adj g x j) g.1.toNat
theorem QE {F:Nat} {g:Gr} {p:Nat→Bool} (hg:yD g=true) (hF:9≤F) :
    uV F ⟨xQ g⟩ ((mkm p g.1.toNat:Nat):Int)=some ((mkm (zkN g p) g.1.toNat:Nat):Int):=by
 have h8:=yl hg
 obtain ⟨n,hn⟩:∃ n:Nat,g.1=n:=⟨g.1.toNat,by omega⟩
 unfold uV
 refine xA (L:=fun k i s=>xG F ((mkm p g.1.toNat:Nat):Int) ⟨xQ g⟩ k s i) (n:=n) (fun i s=>s=((mkm (fun j=>p j || ve (fun x=>p x && adj g x j) i) n:Nat):Int)) ?_ ?_ F _ (by omega) ?_
 · intro k i s hi hs
   subst hs
   simp only [xG,u7]
   have hnn:g.1.toNat=n:=by omega
   have hlt:decide ((i:Int) < ((xQ g).length:Int))=true:=by rw [Zf];simp;omega
   rw [hlt,zk,zT (d:=0) (by rw [Zf];omega),zb,JG (by omega),hnn]
   obtain ⟨q,hq,hq1,_⟩:=zbq (m:=mkm p n) (j:=i) (ww (by omega)) (by omega)
   rw [hq,zb,hq1,yh,yd hi (by unfold Sm;omega)]
   have hd:decide (i < n)=true:=by simp [hi]
   rw [hd,zL]
   cases hp:p i with
   | true=>
     rw [zk,XW (ww (by omega)) (ww (by omega))]
     refine ⟨_,?_,rfl⟩
     congr 1
     refine W4 fun j=>?_
     rw [ZN,yh,yh]
     simp only [ve,hp,zL]
     cases decide (j < n) <;> simp [Bool.or_assoc]
   | false=>
     rw [zh]
     refine ⟨_,?_,rfl⟩
     congr 1
     refine wD fun j _=>?_
     simp [ve,hp]
 · intro k s hs
   subst hs
   simp only [xG]
   have hlt:decide ((n:Int) < ((xQ g).length:Int))=false:=by rw [Zf];simp;omega
   rw [hlt,zh]
   have hnn:g.1.toNat=n:=by omega
   unfold zkN
   rw [hnn]
 · have hnn:g.1.toNat=n:=by omega
   rw [hnn]
   congr 1
   refine wD fun j _=>?_
   simp [ve]
def yu (p:Nat→Bool) (n:Nat):Nat:=(List.range n).countP p
theorem ZW {p q:Nat→Bool} {n:Nat} (h:∀ j,j < n→p j=q j):yu p n=yu q n:=by
 unfold yu
 apply List.countP_congr
 intro x hx
 rw [h x (by simpa using hx)]
def zkO (m:Nat):Nat:=yu m.testBit 8
theorem zg5:∀ m:Nat,m < 256→wR 0 (Kd.mk (IntKind.u64.wrap (m:Int)):Kd .u64)=some (zkO m:Int):=by decide +kernel
theorem zfU {F m:Nat} (h:m < 256):wR F (Kd.mk (IntKind.u64.wrap (m:Int)):Kd .u64)=some (zkO m:Int):=zg5 m h
theorem zcQ {p:Nat→Bool} {n:Nat} (hn:n≤8):zkO (mkm p n)=yu p n:=by
 unfold zkO
 have h1:yu (mkm p n).testBit 8=yu (fun j=>decide (j < n) && p j) 8:=ZW fun j _=>yh n j
 rw [h1]
 unfold yu
 have:List.range 8=List.range n++(List.range (8 - n)).map (n + ·):=by
  have:=@List.range_add n (8 - n)
  rwa [show n + (8 - n)=8 by omega] at this
 rw [this,List.countP_append]
 have h2:((List.range (8 - n)).map (n + ·)).countP (fun j=>decide (j < n) && p j)=0:=by
  rw [List.countP_eq_zero]
  intro x hx
  simp at hx
  obtain ⟨y,_,rfl⟩:=hx
  have:¬ n + y < n:=by omega
  simp only [this,decide_false,wZ,z9,not_false_eq_true]
 rw [h2,Nat.add_zero]
 apply List.countP_congr
 intro x hx
 simp at hx
 simp [hx]
theorem zfq {p:Nat→Bool} {n:Nat} (hn:n≤8):mkm p n < 256:=by
 have:=Kf (p:=p) (n:=n)
 have:=vx (n:=2) (by decide) hn
 omega
def zt (p:Nat→Bool) (n:Nat):List Int:=((List.range n).filter p).map fun (j:Nat)=>(j:Int)
theorem xg {p:Nat→Bool} {n:Nat}:(zt p n).length=yu p n:=by
 simp [zt,yu,List.countP_eq_length_filter]
theorem Yl {p:Nat→Bool} {n:Nat}:zt p (n + 1)=zt p n++(if p n then [(n:Int)] else []):=by
 simp only [zt,uB,List.filter_append,List.map_append]
 by_cases h:p n=true
 · simp [h]
 · rw [Bool.not_eq_true] at h;simp [h]
theorem xt {p q:Nat→Bool} {n:Nat} (h:∀ j,j < n→p j=q j):zt p n=zt q n:=by
 unfold zt
 congr 1
 apply List.filter_congr
 intro x hx
 exact h x (by simpa using hx)
theorem uX {p:Nat→Bool} {n:Nat}:yu p n≤n:=by
 have:=List.countP_le_length (p:=p) (l:=List.range n)
 unfold yu;simpa using this
theorem NQ:∀ (n:Nat) (l:List Int),l.Nodup→(∀ x∈l,0≤x∧x < n)→yu (fun j=>decide ((j:Int)∈l)) n=l.length
 | 0,l,_,h=>by
   cases l with
   | nil=>rfl
   | cons x l=>have:=h x (by simp);omega
 | n + 1,l,hn,h=>by
   have hs:∀ x∈l.erase (n:Int),0≤x∧x < n:=by
    intro x hx
    have h1:=(hn.mem_erase_iff).1 hx
    have:=h x h1.2
    omega
   have ih:=NQ n (l.erase (n:Int)) (hn.erase _) hs
   have hc:yu (fun j=>decide ((j:Int)∈l.erase (n:Int))) n=yu (fun j=>decide ((j:Int)∈l)) n:=by
    apply ZW
    intro j hj
    rw [yM]
    simp only [yn]
    rw [List.mem_erase_of_ne (by omega)]
   rw [hc] at ih
   unfold yu at *
   rw [uB,List.countP_append,ih]
   by_cases hm:(n:Int)∈l
   · rw [List.length_erase_of_mem hm]
     have:=List.length_pos_of_mem hm
     simp [hm];omega
   · rw [List.erase_of_not_mem hm]
     simp [hm]
def Srt (l:List Int):Prop:=l.Pairwise (· < ·)
theorem zfv:∀ (a b:List Int),Srt a→Srt b→(∀ y,y∈a↔y∈b)→a=b
 | [],[],_,_,_=>rfl
 | [],y :: b,_,_,h=>by have:=(h y).2 (by simp);cases this
 | x :: a,[],_,_,h=>by have:=(h x).1 (by simp);cases this
 | x :: a,y :: b,ha,hb,h=>by
   unfold Srt at ha hb
   rw [List.pairwise_cons] at ha hb
   have e:x=y:=by
    have h1:=(h x).1 (by simp)
    have h2:=(h y).2 (by simp)
    rcases z4.1 h1 with e | h1
    · exact e
    · rcases z4.1 h2 with e | h2
      · exact e.symm
      · have:=ha.1 y h2;have:=hb.1 x h1;omega
   subst e
   congr 1
   refine zfv a b ha.2 hb.2 fun y=>?_
   have:=h y
   simp only [z4] at this
   constructor
   · intro hy
     rcases this.1 (.inr hy) with e | h'
     · have:=ha.1 y hy;omega
     · exact h'
   · intro hy
     rcases this.2 (.inr hy) with e | h'
     · have:=hb.1 y hy;omega
     · exact h'
theorem wA {p:Nat→Bool} {n:Nat} {y:Int}:y∈zt p n↔∃ j:Nat,y=j∧j < n∧p j=true:=by
 unfold zt
 simp only [xp,Zh,ZT]
 constructor
 · rintro ⟨j,⟨h1,h2⟩,rfl⟩;exact ⟨j,rfl,h1,h2⟩
 · rintro ⟨j,rfl,h1,h2⟩;exact ⟨j,⟨h1,h2⟩,rfl⟩
theorem K9 {p:Nat→Bool} {n:Nat}:Srt (zt p n):=by
 unfold Srt zt
 rw [List.pairwise_map]
 have h1:(List.range n).Pairwise (· < ·):=List.pairwise_lt_range
 exact (List.Pairwise.filter _ h1).imp fun h=>by omega
theorem Lv {l:List Int} {p:Nat→Bool} {n:Nat} (h:Srt l) (hm:∀ y,y∈l↔∃ j:Nat,y=j∧j < n∧p j=true):l=zt p n:=
 zfv _ _ h K9 fun y=>(hm y).trans wA.symm
def Xk (f:Nat→Nat):Nat→Nat
 | 0=>0
 | n + 1=>Xk f n + f n
theorem JP {f g:Nat→Nat}:∀ {n:Nat},(∀ i,i < n→f i=g i)→Xk f n=Xk g n
 | 0,_=>rfl
 | n + 1,h=>by simp only [Xk];rw [JP (n:=n) (fun i hi=>h i (by omega)),h n (by omega)]
theorem zfF {f g:Nat→Nat}:∀ {n:Nat},Xk (fun i=>f i + g i) n=Xk f n + Xk g n
 | 0=>rfl
 | n + 1=>by simp only [Xk];rw [zfF (n:=n)];omega
theorem WS {p:Nat→Bool}:∀ {n:Nat},yu p n=Xk (fun j=>if p j then 1 else 0) n
 | 0=>rfl
 | n + 1=>by
   have:yu p (n + 1)=yu p n + (if p n then 1 else 0):=by
    unfold yu
    rw [uB,List.countP_append]
    by_cases h:p n=true <;> simp [h]
   rw [this,WS (n:=n)];rfl
theorem Ng {m i:Nat} (hi:i≤64):U4 .i64 (m:Int) (i:Int)=some ((m / 2 ^ i:Nat):Int):=by
 rw [zfu,Nat.min_eq_left hi]
theorem KD {F n:Nat} {p:Nat→Bool} (hn:n≤8) (hF:20≤F):Y2 F ((mkm p n:Nat):Int)=some (zt p n):=by
 have key:∀ d k i (l:NL Int),i + d=n→d < k→l.list=zt p i→um F ((mkm p n:Nat):Int) k l (i:Int)=some (zt p n):=by
  intro d
  induction d with
  | zero=>
    intro k i l hi hk hl
    obtain ⟨k,rfl⟩:∃ k',k=k' + 1:=⟨k - 1,by omega⟩
    obtain rfl:i=n:=by omega
    simp only [um]
    rw [Ng (by omega),zb,Nat.div_eq_of_lt Kf,hl];rfl
  | succ d ih=>
    intro k i l hi hk hl
    obtain ⟨k,rfl⟩:∃ k',k=k' + 1:=⟨k - 1,by omega⟩
    simp only [um,WE]
    rw [Ng (by omega),zb]
    have hw:w64 ((i:Int) + 1)=((i + 1:Nat):Int):=yd (n:=n) (by omega) (by unfold Sm;omega)
    by_cases hz:mkm p n / 2 ^ i=0
    · have:(((mkm p n / 2 ^ i:Nat):Int) != 0)=false:=by rw [hz];rfl
      rw [this,zh,hl]
      have hlt:mkm p n < 2 ^ i:=by
       rcases Nat.div_eq_zero_iff.1 hz with h | h
       · have:=w4 i;omega
       · exact h
      have hp:∀ j,i≤j→j < n→p j=false:=by
       intro j h1 h2
       have hb:=yh (p:=p) n j
       have:(mkm p n).testBit j=false:=Nat.testBit_lt_two_pow (vq hlt (vx (by decide) h1))
       rw [this] at hb
       simpa [h2] using hb.symm
      have:∀ e,i + e≤n→zt p (i + e)=zt p i:=by
       intro e
       induction e with
       | zero=>intro _;rfl
       | succ e ihe=>intro he;rw [show i + (e + 1)=(i + e) + 1 by omega,Yl,hp (i + e) (by omega) (by omega),ihe (by omega)];simp
      have h3:=this (n - i) (by omega)
      rw [show i + (n - i)=n by omega] at h3
      rw [h3]
    · have:(((mkm p n / 2 ^ i:Nat):Int) != 0)=true:=by
       rw [bne_iff_ne];intro h;exact hz (by exact_mod_cast h)
      rw [this,zk]
      obtain ⟨q,hq,hq1,_⟩:=zbq (m:=mkm p n) (j:=i) (ww (by omega)) (by omega)
      have hd:decide (i < n)=true:=zo (by omega)
      have hq':((mkm p n / 2 ^ i:Nat):Int)=q:=Option.some.inj (by rw [← Ng (by omega),hq])
      rw [zb,hq',hq1,yh,hd,zL,hw]
      have hc:=uX (p:=p) (n:=i)
      have hs:=Yl (p:=p) (n:=i)
      cases hp:p i with
      | true=>
        rw [zk,hl,u9 (by rw [xg];omega),zb]
        refine ih k (i + 1) _ (by omega) (by omega) ?_
        rw [hs,hp];rfl
      | false=>
        rw [zh]
        refine ih k (i + 1) _ (by omega) (by omega) ?_
        rw [hs,hp,hl];simp
 unfold Y2
 exact key n F 0 .nil (by omega) (by omega) rfl
/-! the number of edges that leave a set,counted by edges and by nodes -/
def xj (l:List Int) (i:Nat) (j:Nat):Bool:=decide ((j:Int)∈l.take i)
theorem Wz {l:List Int} {i x:Nat} (hi:i < l.length) (hx:l.getD i 0=(x:Int)):∀ j,xj l (i + 1) j=(xj l i j || j == x):=by
 intro j
 unfold xj
 rw [List.take_add_one,yL hi,yM]
 have:l[i]=(x:Int):=by rw [← hx,zZ,yL hi];rfl
 have h2:((j:Int)=(x:Int))↔j=x:=by omega
 simp [this,h2]
theorem vU {p:Nat→Bool} {n i:Nat} (hi:i < (zt p n).length):∃ j:Nat,(zt p n).getD i 0=j∧j < n∧p j=true:=wA.1 (vg hi)
theorem znx {l:List Int} (h:Srt l) {i j:Nat} (hij:i < j) (hj:j < l.length):l.getD i 0 < l.getD j 0:=by
 have:=List.pairwise_iff_getElem.1 h i j (by omega) hj hij
 rw [zZ,yL (by omega),zZ,yL hj]
 exact this
def vI (l:List Int) (x:Int):Nat:=l.findIdx fun y=>!decide (y < x)
theorem zcr {l:List Int} {x:Int} {j:Nat} (hj:j < vI l x) (hl:j < l.length):l.getD j 0 < x:=by
 have:=List.not_of_lt_findIdx (p:=fun y=>!decide (y < x)) (xs:=l) hj
 rw [zZ,yL hl]
 simpa using this
theorem zcH {l:List Int} {x:Int} (h:vI l x < l.length):¬ l.getD (vI l x) 0 < x:=by
 have:=List.findIdx_getElem (p:=fun y=>!decide (y < x)) (xs:=l) (w:=h)
 rw [zZ,yL h]
 intro hlt
 simp only [xa] at hlt
 have e:l[List.findIdx (fun y=>!decide (y < x)) l] < x:=hlt
 rw [zo e] at this
 cases this
theorem zia {l:List Int} {x:Int}:vI l x≤l.length:=List.findIdx_le_length
theorem MD {α:Type} {xs:List α} {i:Nat} (h:i≤xs.length):sub xs (i:Int) (xs.length:Int)=some (xs.drop i):=by
 unfold sub
 rw [if_pos ⟨by omega,by omega,by omega⟩]
 simp only [yi]
 rw [List.take_of_length_le (by simp)]
theorem Qv {α:Type} {xs:List α} {i:Nat} (h:i≤xs.length):sub xs 0 (i:Int)=some (xs.take i):=by
 unfold sub
 rw [if_pos ⟨by omega,by omega,by omega⟩]
 simp
theorem Mr {α:Type} {xs ys:List α} (h:xs.length + ys.length≤1099511627776):vz xs ys=some (xs++ys):=by
 unfold vz
 rw [if_pos]
 have:(2:Nat) ^ 40=1099511627776:=by decide
 omega
def zgD (l:List Int) (x:Int):List Int:=if vI l x < l.length∧l.getD (vI l x) 0=x then l else l.take (vI l x)++[x]++l.drop (vI l x)
theorem zko {F:Nat} {l:List Int} {x:Int} (hF:l.length < F) (hl:l.length≤1000):Yf F l x=some (zgD l x):=by
 unfold Yf
 have hle:=zia (l:=l) (x:=x)
 refine zfl (L:=fun k i=>uu F l x k i) (n:=vI l x) ?_ ?_ F (by omega)
 · intro k i hi
   simp only [uu,Xb]
   have hlt:decide ((i:Int) < (l.length:Int))=true:=zo (by omega)
   have hx:=zcr hi (by omega)
   rw [hlt,zk,zT (d:=0) (by omega),zb,zo hx,zk,yd hi (by unfold Sm;omega)]
 · intro k
   have hfin:Xa F l x (vI l x:Int) false=some (l.take (vI l x)++[x]++l.drop (vI l x)):=by
    unfold Xa
    rw [zh,Qv hle,zb,Mr (by simp;omega),zb,Mr (by simp;omega),zb,MD hle,zb,Mr (by simp;omega),zb]
    simp
   unfold zgD
   simp only [uu,Xb]
   by_cases h:vI l x < l.length
   · have hlt:decide ((vI l x:Int) < (l.length:Int))=true:=zo (by omega)
     have hx:=zcH h
     rw [hlt,zk,zT (d:=0) h,zb,zA hx,zh,zk,zb]
     by_cases e:l.getD (vI l x) 0=x
     · have:(l.getD (vI l x) 0 == x)=true:=by simpa using e
       rw [this,if_pos ⟨h,e⟩];rfl
     · have:(l.getD (vI l x) 0 == x)=false:=by rw [beq_eq_false_iff_ne];exact e
       rw [this,if_neg (fun h=>e h.2)];exact hfin
   · have hlt:decide ((vI l x:Int) < (l.length:Int))=false:=zA (by omega)
     rw [hlt,zh,zh,zh,if_neg (fun h'=>h h'.1)];exact hfin
theorem ziL {l:List Int} {x y:Int}:y∈zgD l x↔y∈l∨y=x:=by
 unfold zgD
 split
 · rename_i h
   constructor
   · exact .inl
   · rintro (h' | h')
     · exact h'
     · rw [h',← h.2];exact vg h.1
 · have:y∈l↔y∈l.take (vI l x)∨y∈l.drop (vI l x):=by
    rw [← zQ,Y6]
   rw [this]
   simp only [zQ,vv]
   constructor
   · rintro ((h | h) | h)
     · exact .inl (.inl h)
     · exact .inr h
     · exact .inl (.inr h)
   · rintro ((h | h) | h)
     · exact .inl (.inl h)
     · exact .inr h
     · exact .inl (.inr h)
theorem zh3 {l:List Int} {x:Int} (h:Srt l):Srt (zgD l x):=by
 unfold zgD
 split
 · exact h
 · rename_i hn
   have ht:∀ y∈l.take (vI l x),y < x:=by
    intro y hy
    obtain ⟨i,hi,rfl⟩:=Yb.1 hy
    have hi':i < vI l x∧i < l.length:=by simp at hi;omega
    have:=zcr hi'.1 hi'.2
    rw [zZ,yL hi'.2] at this
    simpa using this
   have hd:∀ y∈l.drop (vI l x),x < y:=by
    intro y hy
    obtain ⟨i,hi,rfl⟩:=Yb.1 hy
    have hi':vI l x + i < l.length:=by simp at hi;omega
    have h1:=zcH (l:=l) (x:=x) (by omega)
    have h2:l.getD (vI l x) 0≠x:=fun e=>hn ⟨by omega,e⟩
    have h3:l.getD (vI l x) 0≤l.getD (vI l x + i) 0:=by
     by_cases e:i=0
     · subst e;exact Int.le_refl _
     · exact Int.le_of_lt (znx h (by omega) hi')
    have h4:l.getD (vI l x + i) 0=(l.drop (vI l x))[i]:=by
     rw [List.getElem_drop,zZ,yL hi'];rfl
    omega
   unfold Srt at h ⊢
   have h0:(l.take (vI l x)++l.drop (vI l x)).Pairwise (· < ·):=by rw [Y6];exact h
   rw [List.pairwise_append] at h0
   rw [List.append_assoc,List.pairwise_append]
   refine ⟨h0.1,?_,?_⟩
   · rw [List.singleton_append,List.pairwise_cons]
     exact ⟨hd,h0.2.1⟩
   · intro a ha b hb
     rw [List.singleton_append,z4] at hb
     rcases hb with rfl | hb
     · exact ht a ha
     · exact h0.2.2 a ha b hb
theorem M7 {F n x:Nat} {p:Nat→Bool} (hn:n≤8) (hx:x < n) (hF:20≤F):Yf F (zt p n) (x:Int)=some (zt (fun j=>p j || j == x) n):=by
 have hc:=uX (p:=p) (n:=n)
 rw [zko (by rw [xg];omega) (by rw [xg];omega)]
 congr 1
 refine Lv (zh3 K9) fun y=>?_
 rw [ziL,wA]
 constructor
 · rintro (⟨j,rfl,h1,h2⟩ | rfl)
   · exact ⟨j,rfl,h1,by simp [h2]⟩
   · exact ⟨x,rfl,hx,by simp⟩
 · rintro ⟨j,rfl,h1,h2⟩
   simp only [yU,yA] at h2
   rcases h2 with h2 | h2
   · exact .inl ⟨j,rfl,h1,h2⟩
   · exact .inr (by omega)
theorem YG {F n:Nat} {p:Nat→Bool} {x:Nat} (hn:n≤8) (hx:x < n) (hF:20≤F):wI F (zt p n) (x:Int)=some (p x):=by
 have hc:=uX (p:=p) (n:=n)
 rw [M9 (by rw [xg];omega) (by rw [xg];unfold Sm;omega)]
 congr 1
 rw [yM,yn,wA]
 constructor
 · rintro ⟨j,h1,_,h3⟩;obtain rfl:x=j:=by omega
   exact h3
 · exact fun h=>⟨x,rfl,hx,h⟩
theorem zkJ {F n code:Nat} (hn:n≤8) (hc:code < 9223372036854775808) (hF:20≤F):Wp F (n:Int) (code:Int)=some (zt code.testBit n):=by
 unfold Wp
 refine xA (L:=fun k i s=>vo F (n:Int) (code:Int) k s i) (n:=n) (fun i s=>s=zt code.testBit i) ?_ ?_ F _ (by omega) rfl
 · intro k i s hi hI
   subst hI
   refine ⟨_,rfl,?_⟩
   simp only [vo,Xw]
   have hlt:decide ((i:Int) < (n:Int))=true:=zo (by omega)
   obtain ⟨q,hq,hq1,_⟩:=zbq (m:=code) (j:=i) hc (by omega)
   have hcl:=uX (p:=code.testBit) (n:=i)
   rw [hlt,zk,hq,zb,hq1,yd hi (by unfold Sm;omega),Yl]
   cases code.testBit i with
   | true=>rw [zk,u9 (by rw [xg];omega),zb];rfl
   | false=>rw [zh];simp
 · intro k s hI
   subst hI
   simp only [vo]
   have hlt:decide ((n:Int) < (n:Int))=false:=zA (by omega)
   rw [hlt,zh]
def stp (g:Gr) (p q:Nat→Bool) (j:Nat):Bool:=q j || (p j && ve (fun y=>q y && adj g y j) g.1.toNat)
def rch (g:Gr) (p:Nat→Bool) (x:Nat):Nat→Nat→Bool
 | 0=>fun j=>j == x
 | t + 1=>stp g p (rch g p x t)
def Xj (g:Gr) (p:Nat→Bool) (x:Nat):Nat→Bool:=rch g p x g.1.toNat
theorem ZU {g:Gr} {p q:Nat→Bool} {j:Nat}:stp g p q j=true↔q j=true∨(p j=true∧∃ y,y < g.1.toNat∧q y=true∧adj g y j=true):=by
 unfold stp
 rw [yU,zq,uj]
 constructor
 · rintro (h | ⟨h,y,h1,h2⟩)
   · exact .inl h
   · rw [zq] at h2;exact .inr ⟨h,y,h1,h2.1,h2.2⟩
 · rintro (h | ⟨h,y,h1,h2,h3⟩)
   · exact .inl h
   · exact .inr ⟨h,y,h1,by rw [h2,h3];rfl⟩
theorem U6 {g:Gr} {p:Nat→Bool} {x t j:Nat} (h:rch g p x t j=true):∀ s,t≤s→rch g p x s j=true:=by
 intro s hs
 induction s with
 | zero=>obtain rfl:t=0:=by omega
         exact h
 | succ s ih=>
   by_cases e:t=s + 1
   · subst e;exact h
   · exact ZU.2 (.inl (ih (by omega)))
theorem za0 {g:Gr} {p:Nat→Bool} {x:Nat} (hx:p x=true):∀ t j,rch g p x t j=true→p j=true
 | 0,j,h=>by
   have:j=x:=by simpa [rch] using h
   subst this;exact hx
 | t + 1,j,h=>by
   rcases ZU.1 h with h | h
   · exact za0 hx t j h
   · exact h.1
theorem Ns {g:Gr} (hg:yD g=true) {p:Nat→Bool} {x:Nat} (hx:x < g.1.toNat):∀ t j,rch g p x t j=true→j < g.1.toNat
 | 0,j,h=>by
   have:j=x:=by simpa [rch] using h
   subst this;exact hx
 | t + 1,j,h=>by
   rcases ZU.1 h with h | ⟨_,y,_,_,h⟩
   · exact Ns hg hx t j h
   · have:=Jp hg h
     have:=yl hg
     omega
theorem zae {g:Gr} {p C:Nat→Bool} {x:Nat} (hx:C x=true) (hC:∀ y j,C y=true→p j=true→adj g y j=true→C j=true):∀ t j,rch g p x t j=true→C j=true
 | 0,j,h=>by
   have:j=x:=by simpa [rch] using h
   subst this;exact hx
 | t + 1,j,h=>by
   rcases ZU.1 h with h | ⟨h1,y,_,h2,h3⟩
   · exact zae hx hC t j h
   · exact hC y j (zae hx hC t y h2) h1 h3
theorem QZ {p q:Nat→Bool}:∀ {n:Nat},(∀ j,j < n→p j=true→q j=true)→(∃ j,j < n∧p j=false∧q j=true)→yu p n + 1≤yu q n
 | 0,_,⟨_,h,_⟩=>by omega
 | n + 1,h,⟨j,hj,h1,h2⟩=>by
   rw [WS,WS]
   simp only [Xk]
   rw [← WS,← WS]
   by_cases e:j=n
   · subst e
     have hle:yu p j≤yu q j:=by
      unfold yu
      apply List.countP_mono_left
      intro x hx
      exact h x (by have:=ZT.1 hx;omega)
     rw [h1,h2];simp;omega
   · have ih:=QZ (p:=p) (q:=q) (n:=n) (fun j hj=>h j (by omega)) ⟨j,by omega,h1,h2⟩
     have hn:=h n (by omega)
     by_cases hp:p n=true
     · rw [hp,hn hp];simp;omega
     · rw [Bool.not_eq_true] at hp;rw [hp];simp;omega
theorem Ui {p q:Nat→Bool} {n:Nat} (h:∀ j,j < n→p j=true→q j=true):yu p n≤yu q n:=by
 unfold yu
 apply List.countP_mono_left
 intro x hx
 exact h x (ZT.1 hx)
theorem Mn {g:Gr} {p:Nat→Bool} {x t:Nat} (h:∀ j,rch g p x (t + 1) j=true→rch g p x t j=true):∀ s j,rch g p x (t + s) j=true→rch g p x t j=true
 | 0,j,hj=>hj
 | s + 1,j,hj=>by
   rcases ZU.1 (show stp g p (rch g p x (t + s)) j=true from hj) with h1 | ⟨h1,y,hy,h2,h3⟩
   · exact Mn h s j h1
   · exact h j (ZU.2 (.inr ⟨h1,y,hy,Mn h s y h2,h3⟩))
theorem zdQ {g:Gr} (hg:yD g=true) {p:Nat→Bool} {x:Nat} (hx:x < g.1.toNat) (hp:p x=true):∃ t,t < yu p g.1.toNat∧∀ j,rch g p x (t + 1) j=true→rch g p x t j=true:=by
 apply Classical.byContradiction
 intro hne
 have hstep:∀ t,t < yu p g.1.toNat→∃ j,rch g p x (t + 1) j=true∧rch g p x t j=false:=by
  intro t ht
  apply Classical.byContradiction
  intro hno
  apply hne
  refine ⟨t,ht,fun j hj=>?_⟩
  cases h:rch g p x t j with
  | true=>rfl
  | false=>exact absurd ⟨j,hj,h⟩ hno
 have hgrow:∀ t,t≤yu p g.1.toNat→t + 1≤yu (rch g p x t) g.1.toNat:=by
  intro t
  induction t with
  | zero=>
    intro _
    have:=QZ (p:=fun _=>false) (q:=rch g p x 0) (n:=g.1.toNat) (by simp) ⟨x,hx,rfl,by simp [rch]⟩
    omega
  | succ t ih=>
    intro ht
    have h1:=ih (by omega)
    obtain ⟨j,hj1,hj2⟩:=hstep t (by omega)
    have:=QZ (p:=rch g p x t) (q:=rch g p x (t + 1)) (n:=g.1.toNat) (fun j _ h=>U6 h _ (by omega)) ⟨j,Ns hg hx _ j hj1,hj2,hj1⟩
    omega
 have h1:=hgrow (yu p g.1.toNat) (yF _)
 have h2:yu (rch g p x (yu p g.1.toNat)) g.1.toNat≤yu p g.1.toNat:=Ui fun j _ h=>za0 hp _ j h
 omega
theorem Kt {g:Gr} (hg:yD g=true) {p:Nat→Bool} {x:Nat} (hx:x < g.1.toNat) (hp:p x=true) {s:Nat} (hs:yu p g.1.toNat≤s + 1):∀ j,rch g p x s j=Xj g p x j:=by
 intro j
 obtain ⟨t,ht,hst⟩:=zdQ hg hx hp
 have hcn:=uX (p:=p) (n:=g.1.toNat)
 have key:∀ s,t≤s→(rch g p x s j=true↔rch g p x t j=true):=fun s hs=>⟨fun h=>by
  have:s=t + (s - t):=by omega
  rw [this] at h;exact Mn hst (s - t) j h,fun h=>U6 h s hs⟩
 rw [yM,key s (by omega)]
 unfold Xj
 rw [key g.1.toNat (by omega)]
theorem Lc {g:Gr} {p:Nat→Bool} {x:Nat}:Xj g p x x=true:=U6 (t:=0) (by simp [rch]) _ (Nat.zero_le _)
theorem zjT {g:Gr} {p:Nat→Bool} {x j:Nat} (hx:p x=true) (h:Xj g p x j=true):p j=true:=za0 hx _ j h
theorem zah {g:Gr} (hg:yD g=true) {p:Nat→Bool} {x j:Nat} (hx:x < g.1.toNat) (h:Xj g p x j=true):j < g.1.toNat:=Ns hg hx _ j h
theorem LH {g:Gr} (hg:yD g=true) {p:Nat→Bool} {x y j:Nat} (hx:x < g.1.toNat) (hp:p x=true) (hy:Xj g p x y=true) (hj:p j=true) (ha:adj g y j=true):Xj g p x j=true:=by
 have hcn:=uX (p:=p) (n:=g.1.toNat)
 have:=Kt hg hx hp (s:=g.1.toNat + 1) (by omega) j
 rw [← this]
 exact ZU.2 (.inr ⟨hj,y,zah hg hx hy,hy,ha⟩)
theorem zid {g:Gr} {p C:Nat→Bool} {x j:Nat} (hx:C x=true) (hC:∀ y j,C y=true→p j=true→adj g y j=true→C j=true) (h:Xj g p x j=true):C j=true:=zae hx hC _ j h
theorem zhI {F x:Nat} {g:Gr} {p:Nat→Bool} (hg:yD g=true) (hx:x < g.1.toNat) (hp:p x=true) (hF:40≤F) (hG:g.2.length < F) (hs:Sm g.2.length) :
    Xl F g (zt p g.1.toNat) (x:Int)=some (zt (Xj g p x) g.1.toNat):=by
 have h8:=yl hg
 obtain ⟨n,hn⟩:∃ n:Nat,g.1.toNat=n:=⟨_,rfl⟩
 rw [hn] at hx ⊢
 have hlen:(zt p n).length≤n:=by rw [xg];exact uX
 have hn8:n≤8:=by omega
 have hcl:∀ y j,Xj g p x y=true→p j=true→adj g y j=true→Xj g p x j=true:=fun y j h1 h2 h3=>LH hg (by omega) hp h1 h2 h3
 let B:(Nat→Bool)→(Nat→Bool)→Prop:=fun lo q=>(∀ j,lo j=true→q j=true)∧(∀ j,q j=true→Xj g p x j=true)
 have hlt8:∀ q lo,B lo q→∀ j,q j=true→j < n:=fun q lo h j hj=>by rw [← hn];exact zah hg (by omega) (h.2 j hj)
 have H1:∀ (i:Nat) (rnd:Int) (c1 c10:List Int→Int→Option (List Int)) (q:Nat→Bool),i < (zt p n).length→(∀ j,q j=true→Xj g p x j=true) →
     ∃ q',(∀ j,q j=true→q' j=true)∧(∀ j,q' j=true→Xj g p x j=true)∧(∀ j:Nat,(zt p n).getD i 0=j→(∃ y,y < n∧q y=true∧adj g y j=true)→q' j=true) ∧
      xm F (zt p n) g rnd (i:Int) c1 c10 F (zt q n) 0=c10 (zt q' n) ((i + 1:Nat):Int):=by
  intro i rnd c1 c10 q hi hq
  obtain ⟨z,hz,hzn,hzp⟩:=vU hi
  have hwi:w64 ((i:Int) + 1)=((i + 1:Nat):Int):=yd hi (by unfold Sm;omega)
  have hql:(zt q n).length≤8:=by rw [xg];exact xI uX hn8
  have hend:∀ (q':Nat→Bool) (k t:Nat),q' z=true→xm F (zt p n) g rnd (i:Int) c1 c10 (k + 1) (zt q' n) (t:Int)=c10 (zt q' n) ((i + 1:Nat):Int):=by
   intro q' k t hz'
   simp only [xm,uf]
   by_cases hlt:(t:Int) < ((zt q' n).length:Int)
   · rw [zo hlt,zk,zT (d:=0) hi,zb,hz,YG hn8 hzn (by omega),zb,hz',ye,zh,hwi]
   · rw [zA hlt,zh,zh,hwi]
  by_cases hzq:q z=true
  · obtain ⟨F',rfl⟩:∃ F',F=F' + 1:=⟨F - 1,by omega⟩
    exact ⟨q,fun _ h=>h,hq,fun j hj _=>(by (have e:z=j:=(by omega));subst e;exact hzq),hend q F' 0 hzq⟩
  · rw [Bool.not_eq_true] at hzq
    by_cases hex:∃ y,y < n∧q y=true∧adj g y z=true
    · -- the loop comes to the first neighbor
      refine ⟨fun j=>q j || j == z,fun j h=>by simp [h],?_,fun j hj _=>(by (have e:z=j:=(by omega));subst e;simp),?_⟩
      · intro j hj
        simp only [yU,yA] at hj
        rcases hj with hj | rfl
        · exact hq j hj
        · obtain ⟨y,_,h1,h2⟩:=hex
          exact hcl y j (hq y h1) hzp h2
      · have key:∀ d k t,t + d=(zt q n).length→d < k→(∃ t',t≤t'∧t' < (zt q n).length∧adj g ((zt q n).getD t' 0).toNat z=true) →
            xm F (zt p n) g rnd (i:Int) c1 c10 k (zt q n) (t:Int)=c10 (zt (fun j=>q j || j == z) n) ((i + 1:Nat):Int):=by
         intro d
         induction d with
         | zero=>intro k t ht _ ⟨t',h1,h2,_⟩;omega
         | succ d ih=>
           intro k t ht hk ⟨t',h1,h2,h3⟩
           obtain ⟨k,rfl⟩:∃ k',k=k' + 1:=⟨k - 1,by omega⟩
           obtain ⟨k,rfl⟩:∃ k',k=k' + 1:=⟨k - 1,by omega⟩
           have htl:t < (zt q n).length:=by omega
           obtain ⟨y,hy,hyn,hyq⟩:=vU htl
           rw [xm]
           simp only [uf]
           rw [zo (show (t:Int) < ((zt q n).length:Int) by omega),zk,zT (d:=0) hi,zb,hz,YG hn8 hzn (by omega),zb,hzq,wb,zk,
            zT (d:=0) htl,zb,zb,hy,Ma hG hs,zb]
           have hwt:w64 ((t:Int) + 1)=((t + 1:Nat):Int):=yd htl (by unfold Sm;omega)
           cases ha:adj g y z with
           | true=>
             rw [zk,zb,M7 hn8 hzn (by omega),zb]
             simp only [uW]
             rw [hwt]
             exact hend _ k (t + 1) (by simp)
           | false=>
             rw [zh]
             simp only [uW]
             rw [hwt]
             refine ih (k + 1) (t + 1) (by omega) (by omega) ⟨t',?_,h2,h3⟩
             by_cases e:t=t'
             · subst e;rw [hy,yi,ha] at h3;cases h3
             · omega
        refine key (zt q n).length F 0 (by omega) (by omega) ?_
        obtain ⟨y,hy1,hy2,hy3⟩:=hex
        have hm:(y:Int)∈zt q n:=wA.2 ⟨y,rfl,hy1,hy2⟩
        obtain ⟨t',ht',e⟩:=Yb.1 hm
        exact ⟨t',Nat.zero_le _,ht',by rw [zZ,yL ht',xa,e,yi];exact hy3⟩
    · -- no neighbor: nothing happens
      refine ⟨q,fun _ h=>h,hq,fun j hj hy=>?_,?_⟩
      · obtain rfl:z=j:=by omega
        exact absurd hy hex
      · refine xA (L:=fun k t s=>xm F (zt p n) g rnd (i:Int) c1 c10 k s t) (n:=(zt q n).length) (fun _ s=>s=zt q n) ?_ ?_ F _ (by omega) rfl
        · intro k t s ht hI
          subst hI
          refine ⟨_,rfl,?_⟩
          obtain ⟨y,hy,hyn,hyq⟩:=vU ht
          have ha:adj g y z=false:=by
           rw [Bool.eq_false_iff];intro h;exact hex ⟨y,hyn,hyq,h⟩
          simp only [xm,uf,uW]
          rw [zo (show (t:Int) < ((zt q n).length:Int) by omega),zk,zT (d:=0) hi,zb,hz,YG hn8 hzn (by omega),zb,hzq,wb,zk,
           zT (d:=0) ht,zb,zb,hy,Ma hG hs,zb,ha,zh,yd ht (by unfold Sm;omega)]
        · intro k s hI
          subst hI
          simp only [xm,uf]
          rw [zA (show ¬ ((zt q n).length:Int) < ((zt q n).length:Int) by omega),zh,zh,hwi]
 have H2:∀ (r:Nat) (c1:List Int→Int→Option (List Int)) (q:Nat→Bool),r < (zt p n).length→B (rch g p x r) q→∃ q',B (rch g p x (r + 1)) q'∧wL F (zt p n) g (r:Int) c1 F (zt q n) 0=c1 (zt q' n) ((r + 1:Nat):Int):=by
  intro r c1 q hr hB
  obtain ⟨s,⟨q',hs1,hs2,hs3,hs4⟩,h2⟩:=Mh (L:=fun k i s=>wL F (zt p n) g (r:Int) c1 k s i) (n:=(zt p n).length)
   (fun i s=>∃ q':Nat→Bool,s=zt q' n∧(∀ j,q j=true→q' j=true)∧(∀ j,q' j=true→Xj g p x j=true)∧∀ i',i' < i→∀ j:Nat,(zt p n).getD i' 0=j→(∃ y,y < n∧q y=true∧adj g y j=true)→q' j=true)
   (fin:=fun s=>c1 s ((r + 1:Nat):Int)) (fun k i s hi ⟨q1,hq1,hq2,hq3,hq4⟩=>by
     subst hq1
     obtain ⟨q2,h1,h2,h3,h4⟩:=H1 i (r:Int) c1 (wL F (zt p n) g (r:Int) c1 k) q1 hi hq3
     refine ⟨_,⟨q2,rfl,fun j h=>h1 j (hq2 j h),h2,?_⟩,?_⟩
     · intro i' hi' j hj ⟨y,hy1,hy2,hy3⟩
       by_cases e:i'=i
       · subst e;exact h3 j hj ⟨y,hy1,hq2 y hy2,hy3⟩
       · exact h1 j (hq4 i' (by omega) j hj ⟨y,hy1,hy2,hy3⟩)
     · simp only [wL]
       rw [zo (show (i:Int) < ((zt p n).length:Int) by omega),zk,h4]) (fun k s _=>by
     simp only [wL]
     rw [zA (show ¬ ((zt p n).length:Int) < ((zt p n).length:Int) by omega),zh,yd hr (by unfold Sm;omega)]) F _ (by omega) ⟨q,rfl,fun _ h=>h,hB.2,fun i' hi'=>by omega⟩
  subst hs1
  refine ⟨q',⟨fun j hj=>?_,hs3⟩,h2⟩
  rcases ZU.1 (show stp g p (rch g p x r) j=true from hj) with h | ⟨h1,y,hy,h2,h3⟩
  · exact hs2 j (hB.1 j h)
  · have hjn:j < n:=by rw [← hn];exact Ns hg (by omega) (r + 1) j hj
    have hm:(j:Int)∈zt p n:=wA.2 ⟨j,rfl,hjn,h1⟩
    obtain ⟨i',hi',e⟩:=Yb.1 hm
    refine hs4 i' hi' j ?_ ⟨y,by omega,hB.1 y h2,h3⟩
    rw [zZ,yL hi',xa,e]
 obtain ⟨s,⟨q,hq1,hq2⟩,h2⟩:=Mh (L:=fun k i s=>vm F (zt p n) g k s i) (n:=(zt p n).length) (fun i s=>∃ q,s=zt q n∧B (rch g p x i) q) (fin:=fun s=>some s) (fun k i s hi ⟨q,hq1,hq2⟩=>by
     subst hq1
     obtain ⟨q',h1,h2⟩:=H2 i (vm F (zt p n) g k) q hi hq2
     refine ⟨_,⟨q',rfl,h1⟩,?_⟩
     simp only [vm]
     rw [zo (show (i:Int) < ((zt p n).length:Int) by omega),zk,h2]) (fun k s _=>by
     simp only [vm]
     rw [zA (show ¬ ((zt p n).length:Int) < ((zt p n).length:Int) by omega),zh]) F [(x:Int)] (by omega) ⟨fun j=>j == x,by
      refine Lv (by simp [Srt]) fun y=>?_
      simp only [vv,yA]
      constructor
      · rintro rfl;exact ⟨x,rfl,by omega,rfl⟩
      · rintro ⟨j,rfl,_,rfl⟩;rfl,fun j h=>h,fun j h=>by
      have:j=x:=by simpa using h
      subst this;exact Lc⟩
 subst hq1
 unfold Xl
 rw [h2]
 congr 1
 apply xt
 intro j _
 rw [yM]
 refine ⟨hq2.2 j,fun h=>hq2.1 j ?_⟩
 rw [Kt hg (by omega) hp (by rw [xg,hn];omega) j]
 exact h
def Q8 (p:Nat→Bool):Nat→Option Nat
 | 0=>none
 | n + 1=>match Q8 p n with
   | some x=>some x
   | none=>if p n then some n else none
theorem Ue {p:Nat→Bool}:∀ {n:Nat},Q8 p n=none↔∀ j,j < n→p j=false
 | 0=>by simp [Q8]
 | n + 1=>by
   have ih:=Ue (p:=p) (n:=n)
   simp only [Q8]
   cases h:Q8 p n with
   | some x=>
     simp only [reduceCtorEq,false_iff]
     intro hj
     have:=ih.2 (fun j hj'=>hj j (by omega))
     rw [h] at this;cases this
   | none=>
     simp only
     have h1:=ih.1 h
     by_cases hp:p n=true
     · rw [if_pos hp]
       simp only [reduceCtorEq,false_iff]
       intro hj;have:=hj n (by omega);rw [hp] at this;cases this
     · rw [if_neg hp]
       simp only [true_iff]
       intro j hj
       by_cases e:j=n
       · subst e;simpa using hp
       · exact h1 j (by omega)
theorem Kr {p:Nat→Bool} {n:Nat}:mkm p n=0↔Q8 p n=none:=by
 rw [Ue]
 constructor
 · intro h j hj
   have:=yh (p:=p) n j
   rw [h,xH] at this
   simpa [hj] using this.symm
 · intro h
   apply wQ;intro j
   rw [yh,xH]
   by_cases hj:j < n
   · simp [h j hj]
   · simp [hj]
theorem zkg {p q:Nat→Bool} {n:Nat} (h:mkm p n=mkm q n):∀ j,j < n→p j=q j:=by
 intro j hj
 have h1:=yh (p:=p) n j
 have h2:=yh (p:=q) n j
 rw [h,h2] at h1
 simpa [hj] using h1.symm
def Xy (g:Gr) (f q0:Nat→Bool):Nat→Nat→Bool
 | 0=>q0
 | t + 1=>stp g f (Xy g f q0 t)
theorem Y3 {g:Gr} {f q0:Nat→Bool}:∀ (t j:Nat),Xy g f q0 t j=true↔∃ y,q0 y=true∧rch g f y t j=true
 | 0,j=>by
   constructor
   · intro h;exact ⟨j,h,by simp [rch]⟩
   · rintro ⟨y,h1,h2⟩
     have:j=y:=by simpa [rch] using h2
     subst this;exact h1
 | t + 1,j=>by
   have h0:Xy g f q0 (t + 1) j=stp g f (Xy g f q0 t) j:=rfl
   rw [h0,ZU]
   constructor
   · rintro (h | ⟨h1,z,hz,h2,h3⟩)
     · obtain ⟨y,h4,h5⟩:=(Y3 t j).1 h
       exact ⟨y,h4,U6 h5 _ (by omega)⟩
     · obtain ⟨y,h4,h5⟩:=(Y3 t z).1 h2
       exact ⟨y,h4,ZU.2 (.inr ⟨h1,z,hz,h5,h3⟩)⟩
   · rintro ⟨y,h4,h5⟩
     rcases ZU.1 (show stp g f (rch g f y t) j=true from h5) with h | ⟨h1,z,hz,h2,h3⟩
     · exact .inl ((Y3 t j).2 ⟨y,h4,h⟩)
     · exact .inr ⟨h1,z,hz,(Y3 t z).2 ⟨y,h4,h2⟩,h3⟩
def spr (g:Gr) (f u:Nat→Bool) (j:Nat):Bool:=ve (fun y=>u y && f y && Xj g f y j) g.1.toNat
theorem Nb {g:Gr} (hg:yD g=true) {f u:Nat→Bool} (hu:∀ j,u j=true→j < g.1.toNat) {t:Nat} (ht:g.1.toNat≤t) (j:Nat):Xy g f (fun j=>u j && f j) t j=spr g f u j:=by
 rw [yM,Y3]
 unfold spr
 rw [uj]
 have hcn:=uX (p:=f) (n:=g.1.toNat)
 constructor
 · rintro ⟨y,h1,h2⟩
   simp only [zq] at h1
   have hy:=hu y h1.1
   refine ⟨y,hy,?_⟩
   rw [Kt hg hy h1.2 (by omega) j] at h2
   rw [h1.1,h1.2,h2];rfl
 · rintro ⟨y,hy,h⟩
   simp only [zq] at h
   refine ⟨y,by rw [h.1.1,h.1.2];rfl,?_⟩
   rw [Kt hg hy h.1.2 (by omega) j];exact h.2
theorem Q6 {g:Gr} (hg:yD g=true) {f u:Nat→Bool} {j:Nat} (h:spr g f u j=true):j < g.1.toNat:=by
 unfold spr at h
 obtain ⟨y,hy,h⟩:=uj.1 h
 simp only [zq] at h
 exact zah hg hy h.2
theorem zmN {g:Gr} {f q0:Nat→Bool} (h0:∀ j,q0 j=true→f j=true) {t j:Nat} (h:Xy g f q0 t j=true):f j=true:=by
 obtain ⟨y,h1,h2⟩:=(Y3 t j).1 h
 exact za0 (h0 y h1) t j h2
theorem Lr {g:Gr} {f q0:Nat→Bool} {t:Nat} (h:∀ j,Xy g f q0 (t + 1) j=true→Xy g f q0 t j=true):∀ s j,Xy g f q0 (t + s) j=true→Xy g f q0 t j=true
 | 0,j,hj=>hj
 | s + 1,j,hj=>by
   rcases ZU.1 (show stp g f (Xy g f q0 (t + s)) j=true from hj) with h1 | ⟨h1,y,hy,h2,h3⟩
   · exact Lr h s j h1
   · exact h j (ZU.2 (.inr ⟨h1,y,hy,Lr h s y h2,h3⟩))
theorem zgI {g:Gr} {f q0:Nat→Bool} {t j:Nat} (h:Xy g f q0 t j=true):∀ s,t≤s→Xy g f q0 s j=true:=by
 intro s hs
 obtain ⟨y,h1,h2⟩:=(Y3 t j).1 h
 exact (Y3 s j).2 ⟨y,h1,U6 h2 s hs⟩
def xx (step:Int):Int:=if step < 0 then -1 - step else step
def Xu (n:Nat) (p:Nat→Bool) (step:Int):Bool:=decide (xx step < n) && (p (xx step).toNat == decide (step < 0))
def xi (p:Nat→Bool) (step:Int) (j:Nat):Bool:=if step < 0 then p j && !(j == (xx step).toNat) else p j || j == (xx step).toNat
theorem KZ {step:Int}:0≤xx step:=by unfold xx;split <;> omega
theorem Mp {step:Int} (h:(Lit.int .i64 step).wf=true):(if step < 0 then w64 (-1 - step) else step)=xx step:=by
 have:=L9.1 h
 unfold xx
 split
 · exact xw (by omega) (by omega)
 · rfl
theorem NR {F:Nat} {g:Gr} {p u:Nat→Bool} {step:Int} (hg:yD g=true) (hst:(Lit.int .i64 step).wf=true) (hu:∀ j,u j=true→j < g.1.toNat) (hF:40≤F) :
    ∃ r,uS F ⟨xQ g⟩ (((mkm p g.1.toNat:Nat):Int),((mkm u g.1.toNat:Nat):Int)) step=some r∧r.2=Xu g.1.toNat p step ∧
     (Xu g.1.toNat p step=true→r.1=(((mkm (xi p step) g.1.toNat:Nat):Int),((mkm (spr g (fun j=>!xi p step j) u) g.1.toNat:Nat):Int))):=by
 have h8:=yl hg
 have hx0:=KZ (step:=step)
 have hopen:uS F ⟨xQ g⟩ (((mkm p g.1.toNat:Nat):Int),((mkm u g.1.toNat:Nat):Int)) step=uG F step ⟨xQ g⟩ (((mkm p g.1.toNat:Nat):Int),((mkm u g.1.toNat:Nat):Int)) (xx step):=by
  have hw:=Mp hst
  unfold uS
  by_cases h:step < 0
  · rw [zo h,zk];rw [if_pos h] at hw;rw [hw]
  · rw [zA h,zh];rw [if_neg h] at hw;rw [← hw]
 rw [hopen]
 unfold uG Xq
 rw [Zf,zb,LD,zb]
 have hw1:w64 ((g.1.toNat:Int) - 1)=(g.1.toNat:Int) - 1:=xw (by omega) (by omega)
 rw [hw1,zo hx0,zL]
 by_cases hxn:xx step < g.1.toNat
 · obtain ⟨x,hx⟩:∃ x:Nat,xx step=x:=⟨(xx step).toNat,by omega⟩
   rw [hx] at hxn ⊢
   have hxn':x < g.1.toNat:=by omega
   rw [zo (show (x:Int)≤(g.1.toNat:Int) - 1 by omega),ye,zh]
   obtain ⟨q,hq,hq1,_⟩:=zbq (m:=mkm p g.1.toNat) (j:=x) (ww (by omega)) (by omega)
   rw [hq,zb,hq1,yh,zo hxn',zL]
   unfold Xu
   rw [hx,zo hxn,zL,yi]
   unfold Zv
   by_cases hc:p x=decide (step < 0)
   · have e1:(p x != decide (step < 0))=false:=by rw [hc];simp
     have e2:(p x == decide (step < 0))=true:=by rw [hc];simp
     rw [e1,e2,zh,Zr (by omega),zb]
     have hxor:Yo .i64 ((mkm p g.1.toNat:Nat):Int) ((2 ^ x:Nat):Int)=((mkm (xi p step) g.1.toNat:Nat):Int):=by
      rw [ziC (ww (by omega)) (Zl (by omega))]
      congr 1
      refine W4 fun j=>?_
      rw [Nat.testBit_xor,yh,Z2]
      unfold xi
      rw [hx,yi]
      by_cases e:x=j
      · subst e
        rw [zo hxn',zo rfl,hc]
        by_cases hs:step < 0
        · simp [hs]
        · simp [hs]
      · have h1:decide (x=j)=false:=by simpa using e
        have h2:(j == x)=false:=by simp;omega
        rw [h1,h2]
        split <;> cases decide (j < g.1.toNat) <;> cases p j <;> rfl
     simp only [hxor]
     have hand:∀ q:Nat→Bool,yS .i64 ((mkm q g.1.toNat:Nat):Int) ((mkm (xi p step) g.1.toNat:Nat):Int)=((mkm (fun j=>q j && !xi p step j) g.1.toNat:Nat):Int):=by
      intro q
      obtain ⟨m,hm1,hm2,hm3⟩:=YO (a:=mkm q g.1.toNat) (b:=mkm (xi p step) g.1.toNat) (ww (by omega)) (ww (by omega))
      rw [hm1]
      congr 1
      refine W4 fun j=>?_
      rw [hm3,yh,yh]
      cases decide (j < g.1.toNat) <;> simp
     rw [hand]
     have key:∀ e k t,t + e=g.1.toNat + 1→e < k→vy F ⟨xQ g⟩ (((mkm p g.1.toNat:Nat):Int),((mkm u g.1.toNat:Nat):Int)) ((2 ^ x:Nat):Int) k ((mkm (Xy g (fun j=>!xi p step j) (fun j=>u j && !xi p step j) t) g.1.toNat:Nat):Int) =
         some ((((mkm (xi p step) g.1.toNat:Nat):Int),((mkm (spr g (fun j=>!xi p step j) u) g.1.toNat:Nat):Int)),true):=by
      intro e
      have hstep:∀ t,yS .i64 ((mkm (zkN g (Xy g (fun j=>!xi p step j) (fun j=>u j && !xi p step j) t)) g.1.toNat:Nat):Int) ((mkm (xi p step) g.1.toNat:Nat):Int)=((mkm (Xy g (fun j=>!xi p step j) (fun j=>u j && !xi p step j) (t + 1)) g.1.toNat:Nat):Int):=by
       intro t
       rw [hand]
       congr 1
       apply wD
       intro j _
       show _=stp g (fun j=>!xi p step j) (Xy g (fun j=>!xi p step j) (fun j=>u j && !xi p step j) t) j
       unfold zkN stp
       have:=zmN (g:=g) (f:=fun j=>!xi p step j) (q0:=fun j=>u j && !xi p step j) (fun j h=>by simp only [zq] at h;exact h.2) (t:=t) (j:=j)
       cases hr:Xy g (fun j=>!xi p step j) (fun j=>u j && !xi p step j) t j with
       | true=>
         have h2:=this hr
         simp only [yE] at h2
         rw [h2];rfl
       | false=>
         rw [Bool.false_or,Bool.false_or,Bool.and_comm]
      induction e with
      | zero=>
        intro k t ht hk
        obtain ⟨k,rfl⟩:∃ k',k=k' + 1:=⟨k - 1,by omega⟩
        have e1:=Nb hg (f:=fun j=>!xi p step j) hu (t:=t) (by omega)
        have e2:=Nb hg (f:=fun j=>!xi p step j) hu (t:=t + 1) (by omega)
        rw [vy,QE hg (by omega),zb]
        simp only [hxor]
        rw [hstep,wD (q:=spr g (fun j=>!xi p step j) u) (fun j _=>e1 j),wD (q:=spr g (fun j=>!xi p step j) u) (fun j _=>e2 j)]
        simp
      | succ e ih=>
        intro k t ht hk
        obtain ⟨k,rfl⟩:∃ k',k=k' + 1:=⟨k - 1,by omega⟩
        rw [vy,QE hg (by omega),zb]
        simp only [hxor]
        rw [hstep]
        by_cases hst2:mkm (Xy g (fun j=>!xi p step j) (fun j=>u j && !xi p step j) (t + 1)) g.1.toNat=mkm (Xy g (fun j=>!xi p step j) (fun j=>u j && !xi p step j) t) g.1.toNat
        · have hlt:∀ s j,Xy g (fun j=>!xi p step j) (fun j=>u j && !xi p step j) s j=true→j < g.1.toNat:=by
           intro s j hj
           obtain ⟨y,h1,h2⟩:=(Y3 s j).1 hj
           simp only [zq] at h1
           exact Ns hg (hu y h1.1) s j h2
          have hstop:∀ j,Xy g (fun j=>!xi p step j) (fun j=>u j && !xi p step j) (t + 1) j=true→Xy g (fun j=>!xi p step j) (fun j=>u j && !xi p step j) t j=true:=by
           intro j hj
           rw [← zkg hst2 j (hlt _ j hj)];exact hj
          have hfin:∀ j,Xy g (fun j=>!xi p step j) (fun j=>u j && !xi p step j) t j=spr g (fun j=>!xi p step j) u j:=by
           intro j
           rw [← Nb hg (f:=fun j=>!xi p step j) hu (t:=t + g.1.toNat) (by omega) j,yM]
           exact ⟨fun h=>zgI h _ (by omega),fun h=>Lr hstop _ j h⟩
          rw [hst2,wD (q:=spr g (fun j=>!xi p step j) u) (fun j _=>hfin j)]
          simp
        · have hb:(((mkm (Xy g (fun j=>!xi p step j) (fun j=>u j && !xi p step j) (t + 1)) g.1.toNat:Nat):Int) == ((mkm (Xy g (fun j=>!xi p step j) (fun j=>u j && !xi p step j) t) g.1.toNat:Nat):Int))=false:=by
           rw [beq_eq_false_iff_ne];intro h;exact hst2 (by exact_mod_cast h)
          rw [hb,zh]
          exact ih k (t + 1) (by omega) (by omega)
     have h0:=key (g.1.toNat + 1) F 0 (by omega) (by omega)
     exact ⟨_,h0,rfl,fun _=>rfl⟩
   · have e1:(p x != decide (step < 0))=true:=by rw [bne_iff_ne];exact hc
     have e2:(p x == decide (step < 0))=false:=by rw [beq_eq_false_iff_ne];exact hc
     rw [e1,e2,zk]
     exact ⟨_,rfl,rfl,fun h=>by cases h⟩
 · rw [zA (show ¬ xx step≤(g.1.toNat:Int) - 1 by omega),wb,zk]
   unfold Xu
   rw [zA hxn,wZ]
   exact ⟨_,rfl,rfl,fun h=>by cases h⟩
end Go.Zq
