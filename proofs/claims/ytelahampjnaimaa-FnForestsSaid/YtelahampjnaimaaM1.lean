/- Plain mathematics: what the functions answer (part 1). Conditions: stated in each theorem. -/
import Derived.Test.YtelahampjnaimaaK3
import Derived.Test.YtelahampjnaimaaGT
set_option linter.unusedVariables false
set_option linter.unusedSimpArgs false
namespace Go.Zq
theorem xp {x:Int} (h1:-9223372036854775808≤x) (h2:x < 9223372036854775808):w64 x=x:=by
 show IntKind.wrap .i64 x=x
 simp only [IntKind.wrap,IntKind.bits,IntKind.signed,z7]
 have e1:((2:Int) ^ 64)=18446744073709551616:=by decide
 have e2:((2:Int) ^ (64 - 1))=9223372036854775808:=by decide
 simp only [e1,e2]
 split
 · rename_i h;simp only [ge_iff_le,z8] at h;omega
 · rename_i h;simp only [ge_iff_le,z8] at h;omega
def Sm (n:Nat):Prop:=n≤4611686018427387904
theorem yk {i n:Nat} (hi:i < n) (hn:Sm n):w64 ((i:Int) + 1)=((i + 1:Nat):Int):=by
 unfold Sm at hn
 rw [xp (by omega) (by omega)];omega
theorem zdD {i n:Nat} (h0:0 < i) (hi:i < n) (hn:Sm n):w64 ((i:Int) - 1)=((i - 1:Nat):Int):=by
 unfold Sm at hn
 rw [xp (by omega) (by omega)];omega
theorem Uj {α:Type} {xs:List α} {i:Nat} (h:i < xs.length):idx xs (i:Int)=some xs[i]:=by
 unfold idx
 rw [if_pos (by omega)]
 simp [h]
theorem zY {α:Type} {xs:List α} {i:Nat} {d:α} (h:i < xs.length):idx xs (i:Int)=some (xs.getD i d):=by
 rw [Uj h];simp [h]
def vn (p:Nat→Bool):Nat→Bool
 | 0=>true
 | n + 1=>vn p n && p n
def uC (p:Nat→Bool):Nat→Bool
 | 0=>false
 | n + 1=>uC p n || p n
theorem xj {p:Nat→Bool}:∀ {n:Nat},vn p n=true↔∀ i,i < n→p i=true
 | 0=>by simp [vn]
 | n + 1=>by
   simp only [vn,zk,xj]
   constructor
   · rintro ⟨h1,h2⟩ i hi
     by_cases e:i=n
     · subst e;exact h2
     · exact h1 i (by omega)
   · intro h
     exact ⟨fun i hi=>h i (by omega),h n (by omega)⟩
theorem NA {p q:Nat→Bool} {n:Nat} (h:∀ i,i < n→p i=q i):vn p n=vn q n:=by
 rw [yo,xj,xj]
 constructor
 · intro h1 i hi;rw [← h i hi];exact h1 i hi
 · intro h1 i hi;rw [h i hi];exact h1 i hi
theorem xT {p:Nat→Bool}:∀ {n:Nat},uC p n=true↔∃ i,i < n∧p i=true
 | 0=>by simp [uC]
 | n + 1=>by
   simp only [uC,yH,xT]
   constructor
   · rintro (⟨i,h1,h2⟩ | h)
     · exact ⟨i,by omega,h2⟩
     · exact ⟨n,by omega,h⟩
   · rintro ⟨i,h1,h2⟩
     by_cases e:i=n
     · subst e;exact .inr h2
     · exact .inl ⟨i,by omega,h2⟩
theorem MZ {p:Nat→Bool} {n:Nat}:uC p n=!vn (fun i=>!p i) n:=by
 induction n with
 | zero=>rfl
 | succ n ih=>simp [uC,vn,ih,Bool.not_and]
theorem KR {p q:Nat→Bool} {n:Nat} (h:∀ i,i < n→p i=q i):uC p n=uC q n:=by
 rw [MZ,MZ,NA];intro i hi;rw [h i hi]
theorem Zv {β:Type} {L:Nat→Int→Option β} {n:Nat} {p:Nat→Bool} {bad fin:Option β} (hs:∀ k i,i < n→L (k + 1) (i:Int)=bif p i then L k ((i + 1:Nat):Int) else bad) (he:∀ k,L (k + 1) (n:Int)=fin) :
    ∀ k,n < k→L k 0=bif vn p n then fin else bad:=by
 have key:∀ d k i,i + d=n→d < k→(∀ j,j < i→p j=true)→L k (i:Int)=bif vn p n then fin else bad:=by
  intro d
  induction d with
  | zero=>
    intro k i hi hk hp
    obtain ⟨k,rfl⟩:∃ k',k=k' + 1:=⟨k - 1,by omega⟩
    obtain rfl:i=n:=by omega
    rw [he,show vn p i=true from xj.2 hp];rfl
  | succ d ih=>
    intro k i hi hk hp
    obtain ⟨k,rfl⟩:∃ k',k=k' + 1:=⟨k - 1,by omega⟩
    rw [hs k i (by omega)]
    cases hpi:p i with
    | true=>
      simp only [zl]
      refine ih k (i + 1) (by omega) (by omega) ?_
      intro j hj
      by_cases e:j=i
      · subst e;exact hpi
      · exact hp j (by omega)
    | false=>
      have:vn p n=false:=by
       rw [Bool.eq_false_iff];intro h
       have:=xj.1 h i (by omega);rw [hpi] at this;cases this
      rw [this];rfl
 intro k hk
 exact key n k 0 (by omega) hk (by simp)
theorem Uw {β σ:Type} {L:Nat→Int→σ→Option β} {n:Nat} (I:Nat→σ→Prop) {fin:σ→Option β} (st:Nat→σ→σ)
    (hs:∀ k i s,i < n→I i s→L (k + 1) (i:Int) s=L k ((i + 1:Nat):Int) (st i s)) (hi:∀ i s,i < n→I i s→I (i + 1) (st i s)) (he:∀ k s,I n s→L (k + 1) (n:Int) s=fin s) :
    ∀ k s0,n < k→I 0 s0→∃ s,I n s∧L k 0 s0=fin s∧s=(List.range n).foldl (fun s i=>st i s) s0:=by
 have key:∀ d k i s,i + d=n→d < k→I i s→∃ s',I n s'∧L k (i:Int) s=fin s'∧s'=(List.range' i d).foldl (fun s i=>st i s) s:=by
  intro d
  induction d with
  | zero=>
    intro k i s hi hk hI
    obtain ⟨k,rfl⟩:∃ k',k=k' + 1:=⟨k - 1,by omega⟩
    obtain rfl:i=n:=by omega
    exact ⟨s,hI,he k s hI,rfl⟩
  | succ d ih=>
    intro k i s hd hk hI
    obtain ⟨k,rfl⟩:∃ k',k=k' + 1:=⟨k - 1,by omega⟩
    rw [hs k i s (by omega) hI]
    obtain ⟨s',h1,h2,h3⟩:=ih k (i + 1) (st i s) (by omega) (by omega) (hi i s (by omega) hI)
    exact ⟨s',h1,h2,by rw [h3,List.range'_succ];rfl⟩
 intro k s0 hk hI
 obtain ⟨s',h1,h2,h3⟩:=key n k 0 s0 (by omega) hk hI
 exact ⟨s',h1,h2,by rw [h3,List.range_eq_range']⟩
theorem wU {β σ:Type} {L:Nat→Int→σ→Option β} {n:Nat} (I:Nat→σ→Prop) {r:Option β}
    (hs:∀ k i s,i < n→I i s→∃ s',I (i + 1) s'∧L (k + 1) (i:Int) s=L k ((i + 1:Nat):Int) s') (he:∀ k s,I n s→L (k + 1) (n:Int) s=r) :
    ∀ k s0,n < k→I 0 s0→L k 0 s0=r:=by
 have key:∀ d k i s,i + d=n→d < k→I i s→L k (i:Int) s=r:=by
  intro d
  induction d with
  | zero=>
    intro k i s hi hk hI
    obtain ⟨k,rfl⟩:∃ k',k=k' + 1:=⟨k - 1,by omega⟩
    obtain rfl:i=n:=by omega
    exact he k s hI
  | succ d ih=>
    intro k i s hd hk hI
    obtain ⟨k,rfl⟩:∃ k',k=k' + 1:=⟨k - 1,by omega⟩
    obtain ⟨s',h1,h2⟩:=hs k i s (by omega) hI
    rw [h2]
    exact ih k (i + 1) s' (by omega) (by omega) h1
 intro k s0 hk hI
 exact key n k 0 s0 (by omega) hk hI
theorem Uh {α:Type} {n:Nat} {x:α} (h:n≤1099511627776):mkN (n:Int) x=some (List.replicate n x):=by
 unfold mkN
 rw [if_pos ⟨by omega,by have:((2:Int) ^ 40)=1099511627776:=by decide
                         omega⟩]
 simp
theorem zgd {β:Type} {L:Nat→Int→Option β} {n:Nat} {r:Option β} (hs:∀ k i,i < n→L (k + 1) (i:Int)=L k ((i + 1:Nat):Int)) (he:∀ k,L (k + 1) (n:Int)=r):∀ k,n < k→L k 0=r:=by
 intro k hk
 exact wU (L:=fun k i (_:Unit)=>L k i) (fun _ _=>True) (fun k i s hi _=>⟨(),trivial,hs k i hi⟩) (fun k s _=>he k) k () hk trivial
theorem vo {α:Type} {l:List α} {i:Nat} {d:α} (h:i < l.length):l.getD i d∈l:=by
 rw [zC,zX h];exact WD h
theorem zgD {β σ:Type} {L:Nat→Int→σ→Option β} {n:Nat} (I:Nat→σ→Prop) {p:Nat→Bool} {r bad:Option β}
    (hs:∀ k i s,i < n→I i s→p i=true→∃ s',I (i + 1) s'∧L (k + 1) (i:Int) s=L k ((i + 1:Nat):Int) s') (hb:∀ k i s,i < n→I i s→p i=false→L (k + 1) (i:Int) s=bad) (he:∀ k s,I n s→L (k + 1) (n:Int) s=r) :
    ∀ k s0,n < k→I 0 s0→L k 0 s0=bif vn p n then r else bad:=by
 have key:∀ d k i s,i + d=n→d < k→I i s→(∀ j,j < i→p j=true)→L k (i:Int) s=bif vn p n then r else bad:=by
  intro d
  induction d with
  | zero=>
    intro k i s hi hk hI hp
    obtain ⟨k,rfl⟩:∃ k',k=k' + 1:=⟨k - 1,by omega⟩
    obtain rfl:i=n:=by omega
    rw [he k s hI,show vn p i=true from xj.2 hp];rfl
  | succ d ih=>
    intro k i s hd hk hI hp
    obtain ⟨k,rfl⟩:∃ k',k=k' + 1:=⟨k - 1,by omega⟩
    cases hpi:p i with
    | true=>
      obtain ⟨s',h1,h2⟩:=hs k i s (by omega) hI hpi
      rw [h2]
      refine ih k (i + 1) s' (by omega) (by omega) h1 ?_
      intro j hj
      by_cases e:j=i
      · subst e;exact hpi
      · exact hp j (by omega)
    | false=>
      rw [hb k i s (by omega) hI hpi]
      have:vn p n=false:=by
       rw [Bool.eq_false_iff];intro h
       have:=xj.1 h i (by omega);rw [hpi] at this;cases this
      rw [this];rfl
 intro k s0 hk hI
 exact key n k 0 s0 (by omega) hk hI (by simp)
theorem XS {α:Type} {xs:List α} {y:α} (h:xs.length < 1099511627776):uQ xs [y]=some (xs++[y]):=by
 unfold uQ
 rw [if_pos]
 have:(2:Nat) ^ 40=1099511627776:=by decide
 simp;omega
theorem U2 {β σ:Type} {L:Nat→Int→σ→Option β} {n:Nat} (I:Nat→σ→Prop) {fin:σ→Option β}
    (hs:∀ k i s,i < n→I i s→∃ s',I (i + 1) s'∧L (k + 1) (i:Int) s=L k ((i + 1:Nat):Int) s') (he:∀ k s,I n s→L (k + 1) (n:Int) s=fin s) :
    ∀ k s0,n < k→I 0 s0→∃ s,I n s∧L k 0 s0=fin s:=by
 have key:∀ d k i s,i + d=n→d < k→I i s→∃ s',I n s'∧L k (i:Int) s=fin s':=by
  intro d
  induction d with
  | zero=>
    intro k i s hi hk hI
    obtain ⟨k,rfl⟩:∃ k',k=k' + 1:=⟨k - 1,by omega⟩
    obtain rfl:i=n:=by omega
    exact ⟨s,hI,he k s hI⟩
  | succ d ih=>
    intro k i s hd hk hI
    obtain ⟨k,rfl⟩:∃ k',k=k' + 1:=⟨k - 1,by omega⟩
    obtain ⟨s',h1,h2⟩:=hs k i s (by omega) hI
    rw [h2]
    exact ih k (i + 1) s' (by omega) (by omega) h1
 intro k s0 hk hI
 exact key n k 0 s0 (by omega) hk hI
theorem w1:w64 1=1:=by decide
theorem w2:w64 2=2:=by decide
theorem MP {n:Nat} (h:n < 9223372036854775808):w64 (n:Int)=n:=xp (by omega) (by omega)
theorem LC (n:Nat) (h:n < 9223372036854775808):(BitVec.ofInt (IntKind.bits .i64) (n:Int)).toNat=n:=by
 show (BitVec.ofInt 64 (n:Int)).toNat=n
 rw [BitVec.ofInt_natCast,BitVec.toNat_ofNat]
 exact Nat.mod_eq_of_lt (by omega)
theorem Wf {a b:Nat} (ha:a < 9223372036854775808) (hb:b < 9223372036854775808):ior .i64 a b=((a ||| b:Nat):Int):=by
 unfold ior
 rw [BitVec.toNat_or,LC a ha,LC b hb]
 exact MP (Nat.or_lt_two_pow (n:=63) ha hb)
theorem JO {a b:Nat} (ha:a < 9223372036854775808) (hb:b < 9223372036854775808):yx .i64 a b=((a &&& b:Nat):Int):=by
 unfold yx
 rw [BitVec.toNat_and,LC a ha,LC b hb]
 exact MP (Nat.and_lt_two_pow (n:=63) a hb)
theorem ud {a b:Nat} (ha:a < 9223372036854775808) (hb:b < 9223372036854775808):∃ c:Nat,yW .i64 a b=(c:Int)∧c≤a∧∀ j,c.testBit j=(a.testBit j && !b.testBit j):=by
 refine ⟨a &&& (18446744073709551615 - b),?_,Nat.and_le_left,?_⟩
 · unfold yW
   rw [BitVec.toNat_and,BitVec.toNat_not,LC a ha,LC b hb]
   have e:(2:Nat) ^ (IntKind.bits .i64) - 1 - b=18446744073709551615 - b:=rfl
   rw [e]
   exact MP (Nat.lt_of_le_of_lt Nat.and_le_left ha)
 · intro j
   rw [Nat.testBit_and]
   have e:18446744073709551615 - b=2 ^ 64 - (b + 1):=by
    have:(2:Nat) ^ 64=18446744073709551616:=by decide
    omega
   rw [e,Nat.testBit_two_pow_sub_succ (by have:(2:Nat) ^ 64=18446744073709551616:=by decide
                                          omega)]
   by_cases hj:j < 64
   · simp [hj]
   · have:a.testBit j=false:=Nat.testBit_lt_two_pow (xy ha (xw (n:=2) (by decide) (show 63≤j by omega)))
     simp [this]
theorem zmk {a j:Nat} (hj:j≤62) (ha:a * 2 ^ j < 9223372036854775808):Xr .i64 (a:Int) (j:Int)=some (((a * 2 ^ j:Nat)):Int):=by
 unfold Xr
 rw [if_neg (by omega)]
 have e:(min (j:Int).toNat (IntKind.bits .i64))=j:=by
  simp only [z5]
  exact Nat.min_eq_left (by show j≤64;omega)
 rw [e]
 have:=MP ha
 rw [show ((a:Int) * 2 ^ j)=((a * 2 ^ j:Nat):Int) by simp]
 rw [show IntKind.i64.wrap ((a * 2 ^ j:Nat):Int)=w64 ((a * 2 ^ j:Nat):Int) from rfl,this]
theorem xB {j:Nat} (hj:j≤62):Xr .i64 1 (j:Int)=some ((2 ^ j:Nat):Int):=by
 have h:1 * 2 ^ j < 9223372036854775808:=by
  have:=xw (n:=2) (by decide) hj
  have e:(2:Nat) ^ 62=4611686018427387904:=by decide
  omega
 have:=zmk (a:=1) hj h
 simpa using this
theorem zhi {a j:Nat}:UD .i64 (a:Int) (j:Int)=some ((a / 2 ^ (min j 64):Nat):Int):=by
 unfold UD
 rw [if_neg (by omega)]
 simp only [z5]
 have:(IntKind.bits .i64)=64:=rfl
 rw [this]
 rw [Int.fdiv_eq_ediv_of_nonneg _ (by exact_mod_cast Nat.zero_le _)]
 simp
theorem YB {j:Nat} (hj:j≤62):(2:Nat) ^ j < 9223372036854775808:=by
 have:=xw (n:=2) (by decide) hj
 have e:(2:Nat) ^ 62=4611686018427387904:=by decide
 omega
def Xy (m:Nat) (p:Nat→Bool):Prop:=m < 9223372036854775808∧∀ j,m.testBit j=p j
theorem Xy.eq {m m':Nat} {p:Nat→Bool} (h:Xy m p) (h':Xy m' p):m=m':=ZX fun j=>by rw [h.2,h'.2]
theorem Md:∀ (n:Nat) (l:List Int),(∀ j,j < n→(j:Int)∈l)→n≤l.length∧(l.length=n→∀ y∈l,0≤y∧y < n)
 | 0,l,_=>⟨Nat.zero_le _,fun h y hy=>by rw [List.length_eq_zero_iff.1 h] at hy;cases hy⟩
 | n + 1,l,h=>by
   have hn:=h n (by omega)
   have hp:=List.length_pos_of_mem hn
   have ih:=Md n (l.erase (n:Int)) (fun j hj=>(List.mem_erase_of_ne (by omega)).2 (h j (by omega)))
   rw [List.length_erase_of_mem hn] at ih
   refine ⟨by omega,fun hl y hy=>?_⟩
   by_cases e:y=n
   · subst e;omega
   · have:=ih.2 (by omega) y ((List.mem_erase_of_ne e).2 hy)
     omega
theorem QT:∀ (n:Nat) (l:List Int),l.Nodup→(∀ x∈l,0≤x∧x < n)→l.length≤n
 | 0,l,_,h=>by
   cases l with
   | nil=>simp
   | cons x l=>have:=h x (by simp);omega
 | n + 1,l,hn,h=>by
   have hs:∀ x∈l.erase (n:Int),0≤x∧x < n:=by
    intro x hx
    have h1:=(hn.mem_erase_iff).1 hx
    have:=h x h1.2
    omega
   have ih:=QT n (l.erase (n:Int)) (hn.erase _) hs
   by_cases hm:(n:Int)∈l
   · rw [List.length_erase_of_mem hm] at ih;omega
   · rw [List.erase_of_not_mem hm] at ih;omega
theorem KT {m j:Nat} (hm:m < 9223372036854775808) (hj:j≤62):∃ q:Int,UD .i64 (m:Int) (j:Int)=some q∧(yx .i64 q 1 == 1)=m.testBit j∧(yx .i64 q 1 == 0)=!m.testBit j:=by
 refine ⟨_,zhi,?_⟩
 have e:min j 64=j:=by omega
 rw [e]
 have hq:m / 2 ^ j < 9223372036854775808:=Nat.lt_of_le_of_lt (Nat.div_le_self _ _) hm
 have:=JO hq (b:=1) (by omega)
 rw [show ((1:Nat):Int)=1 from rfl] at this
 rw [this,Nat.and_one_is_mod]
 have hb:m.testBit j=decide (m / 2 ^ j % 2=1):=by
  rw [Nat.testBit_eq_decide_div_mod_eq]
 rw [hb]
 have h2:=Nat.mod_two_eq_zero_or_one (m / 2 ^ j)
 rcases h2 with h2 | h2 <;> simp [h2]
abbrev Gr:=Int×List (Int×Int)
theorem Kk {F:Nat} {n lo hi:Int}:Yv F n lo hi=some (decide (lo≤n) && decide (n≤hi)):=by
 unfold Yv
 by_cases h:n≥lo
 · simp [h]
 · have:¬ lo≤n:=h
   simp [this]
theorem MO {F:Nat} {n lo hi:Int}:WV F n lo hi=some (decide (lo≤n) && decide (n≤hi)):=by
 unfold WV
 by_cases h:n≥lo
 · simp [h]
 · have:¬ lo≤n:=h
   simp [this]
def bef (a b:Int×Int):Bool:=decide (a.1 < b.1) || (a.1 == b.1) && decide (a.2 < b.2)
theorem JY {F:Nat} {a b:Int×Int}:Z3 F a b=some (bef a b):=by
 unfold Z3 bef
 by_cases h:a.1 < b.1
 · simp [h]
 · cases e:(a.1 == b.1) <;> simp [h]
theorem zpD {F:Nat} {x y:Int}:vj F x y=some (if x < y then -1 else if x > y then 1 else 0):=by
 unfold vj uv
 by_cases h:x < y
 · simp [h]
 · by_cases h2:y < x <;> simp [h,h2]
theorem zlJ {F:Nat} {a b:Int×Int} (hF:3≤F):∃ r,vF F [a.1,a.2] [b.1,b.2]=some r∧(decide (r≥0)=!bef a b):=by
 obtain ⟨k,rfl⟩:∃ k,F=k + 3:=⟨F - 3,by omega⟩
 obtain ⟨a1,a2⟩:=a
 obtain ⟨b1,b2⟩:=b
 unfold vF
 simp only [ui,zpD,bef]
 by_cases h1:a1 < b1
 · refine ⟨-1,?_,?_⟩ <;> simp [idx,h1]
 · by_cases h2:b1 < a1
   · have e:¬ a1=b1:=by omega
     refine ⟨1,?_,?_⟩
     · simp [idx,h1,h2]
     · simp [h1,e]
   · obtain rfl:a1=b1:=by omega
     by_cases h3:a2 < b2
     · refine ⟨-1,?_,?_⟩ <;> simp [idx,h3,w1]
     · by_cases h4:b2 < a2
       · refine ⟨1,?_,?_⟩ <;> simp [idx,h3,h4,w1]
       · obtain rfl:a2=b2:=by omega
         refine ⟨0,?_,?_⟩ <;> simp [idx,w1,w2]
def okE (n:Int) (es:List (Int×Int)) (i:Nat):Bool:=
 decide (0≤(es.getD i (0,0)).1) && decide ((es.getD i (0,0)).1 < (es.getD i (0,0)).2) && decide ((es.getD i (0,0)).2 < n) && (i == 0 || bef (es.getD (i - 1) (0,0)) (es.getD i (0,0)))
def yz (g:Gr):Bool:=decide (0≤g.1) && decide (g.1≤8) && vn (okE g.1 g.2) g.2.length
theorem YG {F:Nat} {g:Gr} (hF:g.2.length < F) (h3:3≤F) (hl:Sm g.2.length):vh F g=some (yz g):=by
 unfold vh
 rw [Kk,zc]
 unfold yz
 by_cases h:0≤g.1∧g.1≤8
 · simp only [h.1,h.2,decide_true,ww,y0,zi,z7]
   rw [Zv (L:=fun k i=>xc F g k i) (n:=g.2.length) (p:=okE g.1 g.2) (bad:=some false) (fin:=some true) ?_ ?_ F hF]
   · cases vn (okE g.1 g.2) g.2.length <;> rfl
   · intro k i hi
     simp only [xc,ua]
     rw [zY (d:=(0,0)) hi,yk hi hl]
     have hlt:decide ((i:Int) < g.2.length)=true:=by simp [hi]
     simp only [hlt,zl,zc,okE]
     generalize g.2.getD i (0,0)=e
     by_cases h1:e.1 < 0
     · have:¬ 0≤e.1:=by omega
       simp [h1,this]
     · by_cases h2:e.1≥e.2
       · have:¬ e.1 < e.2:=by omega
         simp [h1,h2,this]
       · by_cases h4:e.2≥g.1
         · have:¬ e.2 < g.1:=by omega
           simp [h1,h2,h4,this]
         · have a1:0≤e.1:=by omega
           have a2:e.1 < e.2:=by omega
           have a3:e.2 < g.1:=by omega
           simp only [h1,h2,h4,a1,a2,a3,decide_true,decide_false,zi,ww,z7]
           by_cases h5:i=0
           · subst h5;simp
           · have h6:decide ((i:Int) > 0)=true:=by simp;omega
             have h7:(i == 0)=false:=by simpa using h5
             rw [h6,zl,zdD (by omega) hi hl,zY (d:=(0,0)) (by omega),h7]
             obtain ⟨r,hr,hr2⟩:=zlJ (F:=F) (a:=g.2.getD (i - 1) (0,0)) (b:=e) h3
             simp only [zc,hr,hr2,YO]
             cases bef (g.2.getD (i - 1) (0,0)) e <;> rfl
   · intro k;simp [xc]
 · have:(decide (0≤g.1) && decide (g.1≤8))=false:=by
    rw [Bool.eq_false_iff];intro h';apply h;simpa using h'
   simp [this]
theorem XG {F:Nat} {g:Gr} (hF:g.2.length < F) (hl:Sm g.2.length):Zu F g=some (yz g):=by
 unfold Zu
 let p:Nat→Bool:=fun i=>decide (0≤(g.2.getD i (0,0)).1) && decide ((g.2.getD i (0,0)).1≤w64 (g.1 - 1)) && (decide (0≤(g.2.getD i (0,0)).2) && decide ((g.2.getD i (0,0)).2≤w64 (g.1 - 1))) && decide ((g.2.getD i (0,0)).1 < (g.2.getD i (0,0)).2) && (i == 0 || bef (g.2.getD (i - 1) (0,0)) (g.2.getD i (0,0)))
 rw [Zv (L:=fun k i=>xu F g k i) (n:=g.2.length) (p:=p) (bad:=some false) (fin:=some (decide (0≤g.1) && decide (g.1≤8))) ?_ ?_ F hF]
 · unfold yz
   by_cases h:0≤g.1∧g.1≤8
   · have hw:w64 (g.1 - 1)=g.1 - 1:=xp (by omega) (by omega)
     rw [NA (q:=okE g.1 g.2)]
     · cases vn (okE g.1 g.2) g.2.length <;> simp [h.1,h.2]
     · intro i _
       simp only [p,okE,hw]
       generalize g.2.getD i (0,0)=e
       generalize (i == 0 || bef (g.2.getD (i - 1) (0,0)) e)=b
       rw [yo]
       simp only [zk,z8]
       constructor
       · rintro ⟨⟨⟨⟨a1,a2⟩,a3,a4⟩,a5⟩,a6⟩;exact ⟨⟨⟨a1,a5⟩,by omega⟩,a6⟩
       · rintro ⟨⟨⟨a1,a5⟩,a4⟩,a6⟩;exact ⟨⟨⟨⟨a1,by omega⟩,by omega,by omega⟩,a5⟩,a6⟩
   · have:(decide (0≤g.1) && decide (g.1≤8))=false:=by
      rw [Bool.eq_false_iff];intro h';apply h;simpa using h'
     rw [this];cases vn p g.2.length <;> rfl
 · intro k i hi
   simp only [xu,u9,MO,zc]
   rw [zY (d:=(0,0)) hi,yk hi hl]
   have hlt:decide ((i:Int) < g.2.length)=true:=by simp [hi]
   simp only [hlt,zl,zc,p]
   generalize g.2.getD i (0,0)=e
   generalize (decide (0≤e.1) && decide (e.1≤w64 (g.1 - 1)))=b1
   generalize (decide (0≤e.2) && decide (e.2≤w64 (g.1 - 1)))=b2
   cases b1
   · rfl
   cases b2
   · rfl
   by_cases h2:e.1≥e.2
   · have:¬ e.1 < e.2:=by omega
     simp [h2,this]
   · have:e.1 < e.2:=by omega
     simp only [y0,zi,h2,this,decide_true,decide_false,ww,z7]
     by_cases h5:i=0
     · subst h5;simp
     · have h6:decide ((i:Int) > 0)=true:=by simp;omega
       have h7:(i == 0)=false:=by simpa using h5
       rw [h6,zl,zdD (by omega) hi hl,zY (d:=(0,0)) (by omega),h7]
       simp only [zc,JY,YO]
       cases bef (g.2.getD (i - 1) (0,0)) e <;> rfl
 · intro k;simp [xu,MO]
theorem zT {g:Gr} (h:yz g=true):0≤g.1∧g.1≤8:=by
 unfold yz at h
 simp only [zk,z8] at h
 exact h.1
theorem zd5 {F:Nat} {l:List Int} {n:Int} (hF:l.length < F) (hl:Sm l.length):Yz F l n=some (decide (n∈l)):=by
 unfold Yz
 rw [Zv (L:=fun k i=>YM F l n k i) (n:=l.length) (p:=fun i=>!(l.getD i 0 == n)) (bad:=some true) (fin:=some false) ?_ ?_ F hF]
 · by_cases h:n∈l
   · have:vn (fun i=>!(l.getD i 0 == n)) l.length=false:=by
      rw [Bool.eq_false_iff];intro h'
      obtain ⟨i,hi,e⟩:=wT.1 h
      have:=xj.1 h' i hi
      simp [zC,hi,e] at this
     rw [this];simp [h]
   · have:vn (fun i=>!(l.getD i 0 == n)) l.length=true:=by
      rw [xj];intro i hi
      simp only [zC,zX hi,yV,yN,beq_eq_false_iff_ne]
      intro e;exact h (e ▸ WD hi)
     rw [this];simp [h]
 · intro k i hi
   simp only [YM]
   rw [zY (d:=0) hi,yk hi hl]
   have hlt:decide ((i:Int) < l.length)=true:=by simp [hi]
   simp only [hlt,zl,zc]
   cases (l.getD i 0 == n) <;> rfl
 · intro k;simp [YM]
def Yl (n:Int) (l:List Int):Bool:=decide ((l.length:Int)=n) && vn (fun j=>decide ((j:Int)∈l)) n.toNat
theorem zbV {F:Nat} {l:List Int} {lo hi:Int} (hF:l.length < F) (hl:Sm l.length):ZV F l lo hi=some (l.all fun x=>decide (lo≤x) && decide (x≤hi)):=by
 unfold ZV
 rw [Zv (L:=fun k i=>vI F lo hi l k i) (n:=l.length) (p:=fun i=>decide (lo≤l.getD i 0) && decide (l.getD i 0≤hi)) (bad:=some false) (fin:=some true) ?_ ?_ F hF]
 · have:vn (fun i=>decide (lo≤l.getD i 0) && decide (l.getD i 0≤hi)) l.length=l.all fun x=>decide (lo≤x) && decide (x≤hi):=by
    rw [yo,xj,yB]
    constructor
    · intro h x hx
      obtain ⟨i,hi,rfl⟩:=wT.1 hx
      have:=h i hi
      simpa [zC,hi] using this
    · intro h i hi
      simpa [zC,hi] using h l[i] (WD hi)
   rw [this];cases (l.all fun x=>decide (lo≤x) && decide (x≤hi)) <;> rfl
 · intro k i hi
   simp only [vI,Kk]
   rw [zY (d:=0) hi,yk hi hl]
   have hlt:decide ((i:Int) < l.length)=true:=by simp [hi]
   simp only [hlt,zl,zc]
   cases (decide (lo≤l.getD i 0) && decide (l.getD i 0≤_)) <;> rfl
 · intro k;simp [vI]
theorem zbq {F:Nat} {a b:Int}:Xt F a b=some (max a b):=by
 unfold Xt
 by_cases h:a > b
 · simp [h];omega
 · simp [h];omega
def far (l:List Int) (e:Int×Int):Int:=max ((l.idxOf e.1:Int) - l.idxOf e.2) ((l.idxOf e.2:Int) - l.idxOf e.1)
theorem znB {n:Int} {es:List (Int×Int)} (h:vn (okE n es) es.length=true) {i:Nat} (hi:i < es.length):0≤(es.getD i (0,0)).1∧(es.getD i (0,0)).1 < (es.getD i (0,0)).2∧(es.getD i (0,0)).2 < n:=by
 have:=xj.1 h i hi
 unfold okE at this
 simp only [zk,z8] at this
 exact ⟨this.1.1.1,this.1.1.2,this.1.2⟩
theorem UB {g:Gr} (h:yz g=true) {i:Nat} (hi:i < g.2.length):0≤(g.2.getD i (0,0)).1∧(g.2.getD i (0,0)).1 < (g.2.getD i (0,0)).2∧(g.2.getD i (0,0)).2 < g.1:=by
 unfold yz at h
 simp only [zk] at h
 exact znB h.2 hi
theorem LL {n:Int} {l:List Int} (h:Yl n l=true) {x:Int} (h0:0≤x) (hx:x < n):x∈l:=by
 unfold Yl at h
 simp only [zk,xj,z8] at h
 have:=h.2 x.toNat (by omega)
 rwa [Int.toNat_of_nonneg h0] at this
theorem Kn {n:Int} {l:List Int} (h:Yl n l=true):(l.length:Int)=n:=by
 unfold Yl at h
 simp only [zk,z8] at h
 exact h.1
theorem Zx {α:Type} {xs:List α} {i j:Nat} {a d:α} (hi:i < xs.length):(xs.set i a).getD j d=if i=j then a else xs.getD j d:=by
 rw [zC,List.getElem?_set,zC]
 split
 · rename_i e;subst e;simp [hi]
 · rfl
def par (ps:List Int) (x:Int):Int:=ps.getD x.toNat (-1)
def chn (ps:List Int) (x:Int):Nat→Int
 | 0=>x
 | m + 1=>if chn ps x m < 0 then -1 else par ps (chn ps x m)
def yX (ps:List Int):Nat→Int→List Int
 | 0,_=>[]
 | d + 1,x=>if 0≤par ps x then par ps x :: yX ps d (par ps x) else []
theorem Ke {ps:List Int} {x:Int} {m:Nat} (h:chn ps x m < 0):∀ j,m≤j→chn ps x j < 0:=by
 intro j hj
 induction j with
 | zero=>obtain rfl:m=0:=by omega
         exact h
 | succ j ih=>
   by_cases e:m=j + 1
   · subst e;exact h
   · have:=ih (by omega)
     rw [chn,if_pos this];omega
theorem zad {ps:List Int} {x:Int} (h0:0≤x) (m:Nat):chn ps x (m + 1)=chn ps (par ps x) m∨(chn ps x (m + 1) < 0∧chn ps (par ps x) m < 0):=by
 induction m with
 | zero=>left;show (if x < 0 then -1 else par ps x)=par ps x;rw [if_neg (by omega)]
 | succ m ih=>
   rcases ih with ih | ⟨h1,h2⟩
   · left;rw [chn,ih];rfl
   · right;exact ⟨Ke h1 _ (by omega),Ke h2 _ (by omega)⟩
theorem uL (ps:List Int):∀ (d:Nat) (x:Int),0≤x→(∀ j,j < (yX ps d x).length→(yX ps d x).getD j 0=chn ps x (j + 1))∧(∀ j,j≤(yX ps d x).length→0≤chn ps x j) ∧
    ((yX ps d x).length < d→chn ps x ((yX ps d x).length + 1) < 0)∧(yX ps d x).length≤d
 | 0,x,h=>⟨by simp [yX],fun j hj=>by simp [yX] at hj;subst hj;exact h,by simp [yX],by simp [yX]⟩
 | d + 1,x,h=>by
   have ih:=uL ps d (par ps x)
   simp only [yX]
   by_cases hp:0≤par ps x
   · simp only [hp,if_true,Yk]
     have ih:=ih hp
     have hs:∀ m,0≤chn ps (par ps x) m→chn ps x (m + 1)=chn ps (par ps x) m:=by
      intro m hm
      rcases zad (ps:=ps) h m with e | ⟨_,e⟩
      · exact e
      · omega
     refine ⟨?_,?_,?_,by omega⟩
     · intro j hj
       cases j with
       | zero=>show par ps x=(if x < 0 then -1 else par ps x);rw [if_neg (by omega)]
       | succ j=>
         have h1:=ih.1 j (by omega)
         have h2:=ih.2.1 (j + 1) (by omega)
         rw [hs _ h2]
         simpa using h1
     · intro j hj
       cases j with
       | zero=>exact h
       | succ j=>
         have h2:=ih.2.1 j (by omega)
         rw [hs _ h2];exact h2
     · intro hl
       have h3:=ih.2.2.1 (by omega)
       rcases zad (ps:=ps) h ((yX ps d (par ps x)).length + 1) with e | ⟨e,_⟩
       · rw [e];exact h3
       · exact e
   · simp only [hp,if_false]
     refine ⟨by simp,?_,?_,by simp⟩
     · intro j hj;simp at hj;subst hj;exact h
     · intro _;simp [chn];split <;> omega
theorem Mb {ps:List Int} {x:Int} {a b:Nat} (hab:a < b) (he:chn ps x a=chn ps x b) (hb:0≤chn ps x b):∀ m,0≤chn ps x m:=by
 have hs:∀ t,chn ps x (a + t)=chn ps x (b + t):=by
  intro t
  induction t with
  | zero=>exact he
  | succ t ih=>show chn ps x ((a + t) + 1)=chn ps x ((b + t) + 1);rw [chn,chn,ih]
 intro m
 induction m using Nat.strongRecOn with
 | ind m ih=>
   by_cases hm:m≤b
   · have:¬ chn ps x m < 0:=fun h=>by have:=Ke h b hm;omega
     omega
   · have:=hs (m - b)
     rw [show b + (m - b)=m by omega] at this
     rw [← this]
     exact ih _ (by omega)
def Lu (n:Nat) (ps:List Int):Prop:=ps.length=n∧∀ p∈ps,-1≤p∧p < n
theorem ze1 {n:Nat} {ps:List Int} (h:Lu n ps) (x:Int):-1≤par ps x∧par ps x < n:=by
 unfold par
 rw [zC]
 by_cases hx:x.toNat < ps.length
 · rw [zX hx];exact h.2 _ (WD hx)
 · rw [uh (by omega)];simp;omega
theorem Qk {n:Nat} {ps:List Int} (h:Lu n ps) {x:Int} (hx:x < n):∀ m,chn ps x m < n
 | 0=>hx
 | m + 1=>by
   rw [chn];split
   · omega
   · exact (ze1 h _).2
def ZT (ps:List Int) (x:Int) (i:Nat):List Int:=(List.range (i + 1)).map (chn ps x)
theorem zcS {ps:List Int} {x:Int} {i:Nat}:ZT ps x (i + 1)=ZT ps x i++[chn ps x (i + 1)]:=by
 simp [ZT,Xw]
theorem zfa {n:Nat} {ps:List Int} (h:Lu n ps) {x:Int} (hx:x < n) {i:Nat} (hn:(ZT ps x i).Nodup) (h0:∀ j,j≤i→0≤chn ps x j):i < n:=by
 have:=QT n _ hn (fun y hy=>by
  simp only [ZT,xb,vP] at hy
  obtain ⟨j,hj,rfl⟩:=hy
  exact ⟨h0 j (by omega),Qk h hx j⟩)
 simp [ZT] at this
 omega
def Yq (n:Nat) (ps:List Int) (x:Int):Bool:=decide ((yX ps (n + 1) x).length < n)
theorem NV {n:Nat} {ps:List Int} {x:Int} (h0:0≤x) (h:∀ m,0≤chn ps x m):Yq n ps x=false:=by
 unfold Yq
 have:=uL ps (n + 1) x h0
 simp only [decide_eq_false_iff_not]
 intro hl
 have h1:=this.2.2.1 (by omega)
 have h2:=h ((yX ps (n + 1) x).length + 1)
 omega
theorem zgU {n:Nat} {ps:List Int} {x:Int} {i:Nat} (h0:0≤x) (hi:i < n) (h1:∀ j,j≤i→0≤chn ps x j) (h2:chn ps x (i + 1) < 0):(yX ps (n + 1) x).length=i:=by
 have h3:=uL ps (n + 1) x h0
 rcases Nat.lt_trichotomy (yX ps (n + 1) x).length i with h | h | h
 · have:=h3.2.2.1 (by omega)
   have h4:=h1 ((yX ps (n + 1) x).length + 1) (by omega)
   omega
 · exact h
 · have:=h3.2.1 (i + 1) (by omega)
   omega
theorem WC {n:Nat} {ps:List Int} {x y:Int} (h0:0≤x):y∈yX ps (n + 1) x↔∃ t,t < (yX ps (n + 1) x).length∧chn ps x (t + 1)=y:=by
 have h3:=(uL ps (n + 1) x h0).1
 rw [wT]
 constructor
 · rintro ⟨i,hi,rfl⟩
   refine ⟨i,hi,?_⟩
   rw [← h3 i hi,zC,zX hi];rfl
 · rintro ⟨i,hi,rfl⟩
   refine ⟨i,hi,?_⟩
   rw [← h3 i hi,zC,zX hi];rfl
theorem zja {ps:List Int} {x:Int} {i:Nat} (hn:(ZT ps x i).Nodup) (hm:chn ps x (i + 1)∉ZT ps x i):(ZT ps x (i + 1)).Nodup:=by
 rw [zcS,List.nodup_append]
 refine ⟨hn,by simp,?_⟩
 intro a ha b hb e
 simp at hb;subst hb;subst e;exact hm ha
theorem MN {n:Nat} {ps:List Int} (h:Lu n ps) {x:Int} (h0:0≤x) (hx:x < n):idx ps x=some (par ps x):=by
 obtain ⟨m,rfl⟩:∃ m:Nat,x=m:=⟨x.toNat,by omega⟩
 rw [zY (d:=-1) (by rw [h.1];omega)];rfl
theorem Ld {F n:Nat} {ps:List Int} {x:Int} (h:Lu n ps) (hn:n≤8) (h0:0≤x) (hx:x < n) (hF:20≤F):ZF F ps x=some (yX ps (n + 1) x):=by
 have key:∀ d k (y:Int) (out:List Int),out.length + d=n + 1→d < k→0≤y→y < n→wO F ps k y out=some (out++yX ps d y):=by
  intro d
  induction d with
  | zero=>
    intro k y out hd hk hy0 hyn
    obtain ⟨k,rfl⟩:∃ k',k=k' + 1:=⟨k - 1,by omega⟩
    simp only [wO,Ya]
    rw [MN h hy0 hyn]
    have:¬ ((out.length:Int)≤(ps.length:Int)):=by rw [h.1];omega
    simp [yX,this]
  | succ d ih=>
    intro k y out hd hk hy0 hyn
    obtain ⟨k,rfl⟩:∃ k',k=k' + 1:=⟨k - 1,by omega⟩
    simp only [wO,Ya]
    rw [MN h hy0 hyn,zc]
    have hle:decide ((out.length:Int)≤(ps.length:Int))=true:=by rw [h.1];simp;omega
    rw [hle]
    by_cases hp:0≤par ps y
    · have hd':decide (par ps y≥0)=true:=by simpa using hp
      rw [hd']
      simp only [zl,zc]
      rw [XS (by omega),zc,ih k _ _ (by simp;omega) (by omega) hp (ze1 h _).2]
      simp [yX,hp]
    · have hd':decide (par ps y≥0)=false:=by simpa using hp
      rw [hd']
      simp [yX,hp]
 unfold ZF
 rw [key (n + 1) F x [] (by simp) (by omega) h0 hx];rfl
def Jx (ps:List Int) (x:Int) (i:Nat) (j:Nat):Bool:=uC (fun t=>chn ps x (t + 1) == (j:Int)) i
theorem zjC {F n:Nat} {ps ab mk:List Int} {g:Gr} {x:Nat} {c1:List Int→Int→Option (List Int×Bool)} (h:Lu n ps) (hn:n≤8) (hx:x < n) (hab:ab.length=n) :
    ∀ d k i (m:Nat),i + d=n→d < k→i < n→(ZT ps x i).Nodup→(∀ j,j≤i→0≤chn ps x j)→Xy m (Jx ps x i) →
     (Yq n ps x=true→∃ m:Nat,Xy m (Jx ps x (yX ps (n + 1) x).length)∧∀ (mi:Nat),Xy mi (Jx ps x i)→yI F ps g (x:Int) mk c1 k (ab.set x (mi:Int)) (chn ps x (i + 1))=c1 (ab.set x (m:Int)) (w64 ((x:Int) + 1))) ∧
     (Yq n ps x=false→∀ (mi:Nat),Xy mi (Jx ps x i)→yI F ps g (x:Int) mk c1 k (ab.set x (mi:Int)) (chn ps x (i + 1))=some ([],false)):=by
 intro d
 induction d with
 | zero=>intro k i m hd _ hi;omega
 | succ d ih=>
   intro k i m hd hk hi hnd hc hm
   obtain ⟨k,rfl⟩:∃ k',k=k' + 1:=⟨k - 1,by omega⟩
   have hx0:(0:Int)≤(x:Int):=by omega
   have hlen:∀ y:Int,(ab.set x y).length=n:=fun y=>by simp [hab]
   by_cases hup:chn ps x (i + 1) < 0
   · have hK:=zgU hx0 hi hc hup
     have he:Yq n ps x=true:=by unfold Yq;rw [hK];simpa using hi
     refine ⟨fun _=>⟨m,(by rw [hK];exact hm),fun mi hmi=>?_⟩,fun h=>(by rw [he] at h;cases h)⟩
     rw [hmi.eq hm]
     simp only [yI]
     have:decide (chn ps x (i + 1)≥0)=false:=by simp;omega
     rw [this];rfl
   · have hge:decide (chn ps x (i + 1)≥0)=true:=by simp;omega
     obtain ⟨u,hu⟩:∃ u:Nat,chn ps x (i + 1)=u:=⟨(chn ps x (i + 1)).toNat,by omega⟩
     have hun:u < n:=by have:=Qk h (x:=(x:Int)) (by omega) (i + 1);omega
     have hget:∀ y:Int,idx (ab.set x y) (x:Int)=some y:=by
      intro y;rw [zY (d:=0) (by rw [hlen];exact hx),Zx (by rw [hab];exact hx),if_pos rfl]
     by_cases hrep:chn ps x (i + 1)∈ZT ps x i
     · -- met again
       have hnot:∀ m,0≤chn ps x m:=by
        simp only [ZT,xb,vP] at hrep
        obtain ⟨a,ha,e⟩:=hrep
        exact Mb (a:=a) (b:=i + 1) (by omega) e (by omega)
       have he:=NV (n:=n) hx0 hnot
       refine ⟨fun h=>(by rw [he] at h;cases h),fun _ mi hmi=>?_⟩
       simp only [yI,hge,zl]
       by_cases e:u=x
       · have:(chn ps x (i + 1) == (x:Int))=true:=by rw [hu,e];simp
         rw [this];rfl
       · have hne:(chn ps x (i + 1) == (x:Int))=false:=by rw [hu];simp;omega
         rw [hne,zi,hget,zc,hu]
         obtain ⟨q,hq,hq1,_⟩:=KT (m:=mi) (j:=u) hmi.1 (by omega)
         rw [hq,zc,hq1,hmi.2]
         have:Jx ps x i u=true:=by
          unfold Jx;rw [xT]
          simp only [ZT,xb,vP] at hrep
          obtain ⟨a,ha,ea⟩:=hrep
          cases a with
          | zero=>rw [hu] at ea;simp [chn] at ea;omega
          | succ a=>exact ⟨a,by omega,by rw [ea,hu];simp⟩
         rw [this];rfl
     · have hnd':=zja hnd hrep
       have hc':∀ j,j≤i + 1→0≤chn ps x j:=by
        intro j hj
        by_cases e:j=i + 1
        · subst e;omega
        · exact hc j (by omega)
       have hi':=zfa h (x:=(x:Int)) (by omega) hnd' hc'
       have hne:(chn ps x (i + 1) == (x:Int))=false:=by
        rw [beq_eq_false_iff_ne];intro e
        apply hrep;rw [e]
        simp only [ZT,xb,vP]
        exact ⟨0,by omega,rfl⟩
       have hbit:Jx ps x i u=false:=by
        rw [Bool.eq_false_iff];intro hb
        unfold Jx at hb;rw [xT] at hb
        obtain ⟨t,ht,e⟩:=hb
        apply hrep
        simp only [ZT,xb,vP]
        exact ⟨t + 1,by omega,by rw [hu];simpa using e⟩
       have step:∀ mi:Nat,Xy mi (Jx ps x i)→∃ mi':Nat,Xy mi' (Jx ps x (i + 1))∧yI F ps g (x:Int) mk c1 (k + 1) (ab.set x (mi:Int)) (chn ps x (i + 1))=yI F ps g (x:Int) mk c1 k (ab.set x (mi':Int)) (chn ps x (i + 1 + 1)):=by
        intro mi hmi
        refine ⟨mi ||| 2 ^ u,⟨Nat.or_lt_two_pow (n:=63) hmi.1 (YB (by omega)),?_⟩,?_⟩
        · intro j
          rw [ZC,hmi.2,uF]
          show (Jx ps x i j || decide (u=j))=(Jx ps x i j || (chn ps x (i + 1) == (j:Int)))
          rw [hu]
          congr 1
          rw [yo];simp;omega
        · simp only [yI,hge,zl]
          rw [hne,zi,hget,zc,hu]
          obtain ⟨q,hq,hq1,_⟩:=KT (m:=mi) (j:=u) hmi.1 (by omega)
          rw [hq,zc,hq1,hmi.2,hbit]
          simp only [uG,zi]
          rw [hget,xB (by omega),MN h (by omega) (by omega)]
          simp only [zc]
          rw [Wf hmi.1 (YB (by omega))]
          have e2:chn ps x (i + 1 + 1)=par ps (u:Int):=by
           rw [chn,hu,if_neg (by omega)]
          rw [e2]
          simp
       obtain ⟨m',hm',_⟩:=step m hm
       have:=ih k (i + 1) m' (by omega) (by omega) hi' hnd' hc' hm'
       refine ⟨fun he=>?_,fun he mi hmi=>?_⟩
       · obtain ⟨mf,h1,h2⟩:=this.1 he
         refine ⟨mf,h1,fun mi hmi=>?_⟩
         obtain ⟨mi',h3,h4⟩:=step mi hmi
         rw [h4];exact h2 mi' h3
       · obtain ⟨mi',h3,h4⟩:=step mi hmi
         rw [h4];exact this.2 he mi' h3
def Lm (n:Nat) (ps ab:List Int):Prop:=ab.length=n∧∀ x,x < n→∃ m:Nat,ab.getD x 0=(m:Int)∧Xy m (fun j=>decide ((j:Int)∈yX ps (n + 1) (x:Int)))
theorem zhL {n:Nat} {ps:List Int} {x:Nat}:Jx ps x (yX ps (n + 1) (x:Int)).length=fun j:Nat=>decide ((j:Int)∈yX ps (n + 1) (x:Int)):=by
 funext j
 rw [yo,z8,WC (by omega)]
 unfold Jx
 rw [xT]
 constructor
 · rintro ⟨t,h1,h2⟩;exact ⟨t,h1,by simpa using h2⟩
 · rintro ⟨t,h1,h2⟩;exact ⟨t,h1,by simpa using h2⟩
def X2 (n:Nat) (ps:List Int) (e:Int×Int):Bool:=decide (e.2∈yX ps (n + 1) e.1) || decide (e.1∈yX ps (n + 1) e.2)
theorem zi1 {F n:Nat} {ps ab:List Int} {g:Gr} (hg:yz g=true) (hgn:g.1=n) (ha:Lm n ps ab) (hG:g.2.length < F) (hs:Sm g.2.length) :
    xf F ab g F 0=bif vn (fun i=>X2 n ps (g.2.getD i (0,0))) g.2.length then some (ab,true) else some ([],false):=by
 have h8:=zT hg
 refine Zv (L:=fun k i=>xf F ab g k i) (n:=g.2.length) ?_ ?_ F hG
 · intro k i hi
   obtain ⟨e1,e2,e3⟩:=UB hg hi
   simp only [xf,uJ]
   rw [zY (d:=(0,0)) hi,yk hi hs]
   have hlt:decide ((i:Int) < g.2.length)=true:=by simp [hi]
   simp only [hlt,zl,zc,X2]
   generalize g.2.getD i (0,0)=e at e1 e2 e3 ⊢
   obtain ⟨a,b⟩:=e
   simp only at e1 e2 e3 ⊢
   obtain ⟨a,rfl⟩:∃ m:Nat,a=m:=⟨a.toNat,by omega⟩
   obtain ⟨b,rfl⟩:∃ m:Nat,b=m:=⟨b.toNat,by omega⟩
   obtain ⟨ma,ha1,ha2⟩:=ha.2 a (by omega)
   obtain ⟨mb,hb1,hb2⟩:=ha.2 b (by omega)
   rw [zY (d:=0) (by rw [ha.1];omega),zY (d:=0) (by rw [ha.1];omega),ha1,hb1]
   obtain ⟨q,hq,_,hq0⟩:=KT (m:=ma) (j:=b) ha2.1 (by omega)
   obtain ⟨r,hr,_,hr0⟩:=KT (m:=mb) (j:=a) hb2.1 (by omega)
   have hA2:ma.testBit b=decide ((b:Int)∈yX ps (n + 1) (a:Int)):=ha2.2 b
   have hB2:mb.testBit a=decide ((a:Int)∈yX ps (n + 1) (b:Int)):=hb2.2 a
   rw [zc,hq,zc,hq0,hA2,zc,hr,zc,hr0,hB2]
   generalize decide ((b:Int)∈yX ps (n + 1) (a:Int))=b1
   generalize decide ((a:Int)∈yX ps (n + 1) (b:Int))=b2
   cases b1 <;> cases b2 <;> simp
 · intro k;simp [xf]
theorem L8 {ps:List Int} {x:Int}:Xy 0 (Jx ps x 0):=⟨by omega,fun j=>by simp [Jx,uC]⟩
def Nw (n:Nat) (ps:List Int) (i:Nat) (ab:List Int):Prop:=
 ab.length=n∧(∀ x,x < i→Yq n ps (x:Int)=true)∧∀ x,x < n→(x < i→∃ m:Nat,ab.getD x 0=(m:Int)∧Xy m (Jx ps x (yX ps (n + 1) (x:Int)).length))∧(i≤x→ab.getD x 0=0)
theorem zh7 {n:Nat} {ps a b:List Int} (ha:Nw n ps n a) (hb:Nw n ps n b):a=b:=by
 apply List.ext_getElem (by rw [ha.1,hb.1])
 intro j h1 h2
 obtain ⟨m1,e1,k1⟩:=(ha.2.2 j (by rw [ha.1] at h1;exact h1)).1 (by rw [ha.1] at h1;exact h1)
 obtain ⟨m2,e2,k2⟩:=(hb.2.2 j (by rw [ha.1] at h1;exact h1)).1 (by rw [ha.1] at h1;exact h1)
 rw [zC,zX h1] at e1
 rw [zC,zX h2] at e2
 simp at e1 e2
 rw [e1,e2,k1.eq k2]
theorem Ma {n:Nat} {ps:List Int}:Nw n ps 0 (List.replicate n 0):=⟨by simp,by simp,fun x hx=>⟨by omega,fun _=>by simp [zC,hx]⟩⟩
theorem zcJ {n:Nat} {ps:List Int} {x:Nat}:(ZT ps (x:Int) 0).Nodup∧∀ j,j≤0→0≤chn ps (x:Int) j:=⟨by simp [ZT],fun j hj=>by
 obtain rfl:j=0:=by omega
 simp [chn]⟩
theorem zjT {n:Nat} {ps s:List Int} {i:Nat} (hI:Nw n ps i s) (hi:i < n):s.set i ((0:Nat):Int)=s:=by
 apply List.ext_getElem?
 intro j
 rw [List.getElem?_set]
 split
 · rename_i e;subst e
   have:=(hI.2.2 i hi).2 (yP _)
   rw [zC,zX (by rw [hI.1];exact hi)] at this
   simp at this
   simp [hI.1,hi,this]
 · rfl
theorem W8 {F n:Nat} {ps s:List Int} {g:Gr} (h:Lu n ps) (h8:n≤8) (h20:20≤F) {k i:Nat} (hi:i < n) (hI:Nw n ps i s) :
    (Yq n ps (i:Int)=true→∃ s',Nw n ps (i + 1) s'∧yA F ps g (List.replicate n 0) (k + 1) s (i:Int)=yA F ps g (List.replicate n 0) k s' ((i + 1:Nat):Int)) ∧
    (Yq n ps (i:Int)=false→yA F ps g (List.replicate n 0) (k + 1) s (i:Int)=some ([],false)):=by
 have hz:=zjT hI hi
 have key:=zjC (F:=F) (ab:=s) (mk:=List.replicate n 0) (g:=g) (c1:=yA F ps g (List.replicate n 0) k) h h8 hi hI.1 n F 0 0 (by omega) (by omega) (by omega) (zcJ (n:=n)).1 (zcJ (n:=n)).2 L8
 have hopen:yA F ps g (List.replicate n 0) (k + 1) s (i:Int)=yI F ps g (i:Int) (List.replicate n 0) (yA F ps g (List.replicate n 0) k) F (s.set i ((0:Nat):Int)) (chn ps (i:Int) (0 + 1)):=by
  rw [hz]
  simp only [yA]
  have hlt:decide ((i:Int) < (List.replicate n (0:Int)).length)=true:=by simp [hi]
  rw [hlt,zl,MN h (by omega) (by omega),zc]
  have e1:chn ps (i:Int) (0 + 1)=par ps (i:Int):=by show (if (i:Int) < 0 then -1 else par ps (i:Int))=par ps (i:Int);rw [if_neg (by omega)]
  rw [e1]
 refine ⟨fun he=>?_,fun he=>?_⟩
 · obtain ⟨m,h1,h2⟩:=key.1 he
   refine ⟨s.set i (m:Int),⟨by simp [hI.1],?_,?_⟩,?_⟩
   · intro x hx
     by_cases e:x=i
     · subst e;exact he
     · exact hI.2.1 x (by omega)
   · intro x hx
     refine ⟨fun hx2=>?_,fun hx2=>?_⟩
     · rw [Zx (by rw [hI.1];exact hi)]
       by_cases e:i=x
       · subst e;rw [if_pos rfl];exact ⟨m,rfl,h1⟩
       · rw [if_neg e];exact (hI.2.2 x hx).1 (by omega)
     · rw [Zx (by rw [hI.1];exact hi),if_neg (by omega)]
       exact (hI.2.2 x hx).2 (by omega)
   · rw [hopen,h2 0 L8,yk (n:=n) hi (by unfold Sm;omega)]
 · rw [hopen];exact key.2 he 0 L8
theorem zg2 {F n:Nat} {ps:List Int} {g:Gr} (h:Lu n ps) (h8:n≤8) (h20:20≤F) (hall:vn (fun x=>Yq n ps (x:Int)) n=true):∃ ab,Nw n ps n ab:=by
 have:∀ i,i≤n→∃ ab,Nw n ps i ab:=by
  intro i
  induction i with
  | zero=>intro _;exact ⟨_,Ma⟩
  | succ i ih=>
    intro hi
    obtain ⟨s,hs⟩:=ih (by omega)
    obtain ⟨s',h1,_⟩:=(W8 (F:=F) (g:=g) (k:=0) h h8 h20 (by omega) hs).1 (xj.1 hall i (by omega))
    exact ⟨s',h1⟩
 exact this n (yP _)
theorem ziY {F n:Nat} {ps:List Int} {g:Gr} (hg:yz g=true) (hgn:g.1=n) (h:Lu n ps) (hG:g.2.length < F) (h20:20≤F) (hs:Sm g.2.length) :
    ∃ ab,yA F ps g (List.replicate n 0) F (List.replicate n 0) 0=(bif vn (fun x=>Yq n ps (x:Int)) n && vn (fun i=>X2 n ps (g.2.getD i (0,0))) g.2.length then some (ab,true) else some ([],false))∧(vn (fun x=>Yq n ps (x:Int)) n=true→Lm n ps ab):=by
 have h8:=zT hg
 by_cases hex:∃ ab,Nw n ps n ab
 · obtain ⟨ab,hab⟩:=hex
   have hA:Lm n ps ab:=⟨hab.1,fun x hx=>by
    obtain ⟨m,h1,h2⟩:=(hab.2.2 x hx).1 hx
    exact ⟨m,h1,by rw [← zhL];exact h2⟩⟩
   refine ⟨ab,?_,fun _=>hA⟩
   have key:=zgD (L:=fun k i s=>yA F ps g (List.replicate n 0) k s i) (n:=n) (Nw n ps) (p:=fun x=>Yq n ps (x:Int)) (r:=bif vn (fun i=>X2 n ps (g.2.getD i (0,0))) g.2.length then some (ab,true) else some ([],false)) (bad:=some ([],false))
    (fun k i s hi hI he=>(W8 h (by omega) h20 hi hI).1 he) (fun k i s hi hI he=>(W8 h (by omega) h20 hi hI).2 he) (fun k s hI=>by
      rw [zh7 hI hab]
      simp only [yA]
      have hlt:decide ((n:Int) < (List.replicate n (0:Int)).length)=false:=by simp
      rw [hlt,zi]
      exact zi1 hg hgn hA hG hs) F (List.replicate n 0) (by omega) Ma
   rw [key]
   cases vn (fun x=>Yq n ps (x:Int)) n <;> rfl
 · refine ⟨[],?_,?_⟩
   · have key:=zgD (L:=fun k i s=>yA F ps g (List.replicate n 0) k s i) (n:=n) (Nw n ps) (p:=fun x=>Yq n ps (x:Int)) (r:=some ([],false)) (bad:=some ([],false))
      (fun k i s hi hI he=>(W8 h (by omega) h20 hi hI).1 he) (fun k i s hi hI he=>(W8 h (by omega) h20 hi hI).2 he) (fun k s hI=>absurd ⟨s,hI⟩ hex) F (List.replicate n 0) (by omega) Ma
     rw [key]
     by_cases hall:vn (fun x=>Yq n ps (x:Int)) n=true
     · exfalso;exact hex (zg2 h (by omega) (g:=g) (F:=F) h20 hall)
     · rw [Wv] at hall;rw [hall];rfl
   · intro hall;exfalso;exact hex (zg2 h (by omega) (g:=g) (F:=F) h20 hall)
def zfh (n:Nat) (ps:List Int):Bool:=ps.all fun p=>decide (-1≤p) && decide (p≤(n:Int) - 1)
def xm (g:Gr) (ps:List Int):Bool:=
 decide ((ps.length:Int)=g.1) && zfh g.1.toNat ps && (vn (fun x=>Yq g.1.toNat ps (x:Int)) g.1.toNat && vn (fun i=>X2 g.1.toNat ps (g.2.getD i (0,0))) g.2.length)
theorem zcC {n:Nat} {ps:List Int} (hl:ps.length=n) (h:zfh n ps=true):Lu n ps:=by
 refine ⟨hl,fun p hp=>?_⟩
 have:=yB.1 h p hp
 simp at this
 omega
theorem zju {F:Nat} {l:List Int} {n:Int} {m:Nat} (hl:l.length≤m) (hm:m < F) (hs:Sm m):Yz F l n=some (decide (n∈l)):=zd5 (by omega) (by unfold Sm at *;omega)
theorem Ku {ps:List Int} {d:Nat} {x:Int} (h:0≤x):(yX ps d x).length≤d:=(uL ps d x h).2.2.2
theorem zj4 {F n:Nat} {ps:List Int} {g:Gr} (hg:yz g=true) (hgn:g.1=n) (h:Lu n ps) (hG:g.2.length < F) (h20:20≤F) (hs:Sm g.2.length) :
    xF F ps g F 0=some (vn (fun i=>X2 n ps (g.2.getD i (0,0))) g.2.length):=by
 have h8:=zT hg
 rw [Zv (L:=fun k i=>xF F ps g k i) (n:=g.2.length) (p:=fun i=>X2 n ps (g.2.getD i (0,0))) (bad:=some false) (fin:=some true) ?_ ?_ F hG]
 · cases vn (fun i=>X2 n ps (g.2.getD i (0,0))) g.2.length <;> rfl
 · intro k i hi
   obtain ⟨e1,e2,e3⟩:=UB hg hi
   simp only [xF,Yn]
   rw [zY (d:=(0,0)) hi,yk hi hs]
   have hlt:decide ((i:Int) < g.2.length)=true:=by simp [hi]
   rw [hlt,zl,zc,zc]
   unfold X2
   generalize g.2.getD i (0,0)=e at e1 e2 e3 ⊢
   have l1:=Ku (ps:=ps) (d:=n + 1) (x:=e.1) e1
   have l2:=Ku (ps:=ps) (d:=n + 1) (x:=e.2) (by omega)
   rw [Ld h (by omega) e1 (by omega) h20,zc,zju l1 (by omega) (by unfold Sm;omega),zc,
    Ld h (by omega) (by omega) (by omega) h20,zc,zju l2 (by omega) (by unfold Sm;omega),zc]
   generalize decide (e.2∈yX ps (n + 1) e.1)=b1
   generalize decide (e.1∈yX ps (n + 1) e.2)=b2
   cases b1 <;> cases b2 <;> rfl
 · intro k;simp [xF]
theorem Ni {F:Nat} {ps:List Int} {g:Gr} (hg:yz g=true) (hG:g.2.length < F) (h20:20≤F) (hs:Sm g.2.length):Z0 F g ps=some (xm g ps):=by
 have h8:=zT hg
 obtain ⟨n,hn⟩:∃ n:Nat,g.1=n:=⟨g.1.toNat,by omega⟩
 unfold Z0 xm
 rw [hn,z5]
 by_cases hl:ps.length=n
 · have e:((ps.length:Int) != (n:Int))=false:=by simp [hl]
   have e2:decide ((ps.length:Int)=(n:Int))=true:=by simp [hl]
   rw [e,e2,zi,z7]
   have hw:w64 ((n:Int) - 1)=(n:Int) - 1:=xp (by omega) (by omega)
   rw [Zv (L:=fun k i=>ul F ps g k i) (n:=n) (p:=fun i=>decide (-1≤ps.getD i 0) && decide (ps.getD i 0≤(n:Int) - 1)) (bad:=some false) (fin:=vv F ps g F 0) ?_ ?_ F (by omega)]
   · have hin:vn (fun i=>decide (-1≤ps.getD i 0) && decide (ps.getD i 0≤(n:Int) - 1)) n=zfh n ps:=by
      rw [yo,xj,zfh,yB]
      constructor
      · intro h x hx
        obtain ⟨i,hi,rfl⟩:=wT.1 hx
        have:=h i (by omega)
        rwa [zC,zX hi] at this
      · intro h i hi
        exact h _ (vo (by omega))
     rw [hin]
     cases hp:zfh n ps with
     | false=>rfl
     | true=>
       have hok:=zcC hl hp
       rw [zl,z7]
       rw [Zv (L:=fun k i=>vv F ps g k i) (n:=n) (p:=fun x=>Yq n ps (x:Int)) (bad:=some false) (fin:=xF F ps g F 0) ?_ ?_ F (by omega)]
       · rw [zj4 hg hn hok hG h20 hs]
         cases vn (fun x=>Yq n ps (x:Int)) n <;> rfl
       · intro k i hi
         simp only [vv,hn]
         have hlt:decide ((i:Int) < (n:Int))=true:=by simp [hi]
         rw [hlt,zl,Ld hok (by omega) (by omega) (by omega) h20,zc,yk hi (by unfold Sm;omega)]
         unfold Yq
         by_cases hc:(yX ps (n + 1) (i:Int)).length < n
         · have:¬ n≤(yX ps (n + 1) (i:Int)).length:=by omega
           simp [hc,this]
         · have:n≤(yX ps (n + 1) (i:Int)).length:=by omega
           simp [hc,this]
       · intro k;simp [vv,hn]
   · intro k i hi
     simp only [ul,hn,MO]
     have hlt:decide ((i:Int) < (n:Int))=true:=by simp [hi]
     rw [hlt,zl,zY (d:=0) (by omega),zc,zc,hw,yk hi (by unfold Sm;omega)]
     generalize (decide (-1≤ps.getD i 0) && decide (ps.getD i 0≤(n:Int) - 1))=b
     cases b <;> rfl
   · intro k;simp [ul,hn]
 · have e:((ps.length:Int) != (n:Int))=true:=by simp;omega
   have e2:decide ((ps.length:Int)=(n:Int))=false:=by simp;omega
   rw [e,e2];rfl
theorem Qm {F:Nat} {ps:List Int} {g:Gr} (hg:yz g=true) (hG:g.2.length < F) (hP:ps.length < F) (h20:20≤F) (hs:Sm g.2.length) (hsp:Sm ps.length) :
    ∃ ab,vt F g ps=some (bif xm g ps then (ab,true) else ([],false))∧(xm g ps=true→Lm g.1.toNat ps ab):=by
 have h8:=zT hg
 obtain ⟨n,hn⟩:∃ n:Nat,g.1=n:=⟨g.1.toNat,by omega⟩
 unfold vt xm
 rw [hn,z5]
 by_cases hl:ps.length=n
 · have e:((ps.length:Int) != (n:Int))=false:=by simp [hl]
   have e2:decide ((ps.length:Int)=(n:Int))=true:=by simp [hl]
   rw [e,e2,zi,z7]
   have hw:w64 ((n:Int) - 1)=(n:Int) - 1:=xp (by omega) (by omega)
   rw [zbV hP hsp,hw,zc]
   show ∃ ab,vy F ps g (!zfh n ps)=_∧_
   cases hp:zfh n ps with
   | false=>exact ⟨[],rfl,fun h=>by simp at h⟩
   | true=>
     have hok:=zcC hl hp
     unfold vy
     rw [y0,zi,hn,Uh (by omega),zc]
     obtain ⟨ab,h1,h2⟩:=ziY (F:=F) hg hn hok hG h20 hs
     refine ⟨ab,?_,fun h=>?_⟩
     · rw [h1,z7]
       cases (vn (fun x=>Yq n ps (x:Int)) n && vn (fun i=>X2 n ps (g.2.getD i (0,0))) g.2.length) <;> rfl
     · simp only [z7,zk] at h
       exact h2 h.1
 · have e:((ps.length:Int) != (n:Int))=true:=by simp;omega
   have e2:decide ((ps.length:Int)=(n:Int))=false:=by simp;omega
   rw [e,e2]
   exact ⟨[],rfl,fun h=>by simp at h⟩
theorem zbg {F:Nat} {g:Gr} {l:List Int} (hF:l.length < F) (hG:g.2.length < F) (h9:20≤F) (hl:Sm l.length) (hs:Sm g.2.length) :
    YJ F g l=some (yz g && xm g l,yz g):=by
 unfold YJ
 rw [XG hG hs,zc]
 cases h:yz g with
 | false=>rfl
 | true=>rw [Ni h hG h9 hs];rfl
theorem zbN {F:Nat} {g:Gr} {l:List Int} (hF:l.length < F) (hG:g.2.length < F) (h9:20≤F) (hl:Sm l.length) (hs:Sm g.2.length) :
    YN F g l=some (yz g && xm g l,yz g):=by
 unfold YN
 rw [YG hG (by omega) hs,zc]
 cases h:yz g with
 | false=>rfl
 | true=>
   obtain ⟨ab,h1,_⟩:=Qm (F:=F) (ps:=l) h hG hF h9 hs hl
   rw [h1]
   cases xm g l <;> rfl
def mkm (p:Nat→Bool):Nat→Nat
 | 0=>0
 | n + 1=>mkm p n ||| (if p n then 2 ^ n else 0)
theorem yj {p:Nat→Bool}:∀ (n j:Nat),(mkm p n).testBit j=(decide (j < n) && p j)
 | 0,j=>by simp [mkm]
 | n + 1,j=>by
   rw [mkm,ZC,yj n j]
   by_cases hp:p n=true
   · rw [if_pos hp,uF]
     by_cases e:n=j
     · subst e;simp [hp]
     · have h1:decide (n=j)=false:=by simpa using e
       have h2:decide (j < n + 1)=decide (j < n):=by
        rw [yo];simp;omega
       rw [h1,h2];simp
   · rw [if_neg hp,wF]
     rw [Wv] at hp
     by_cases e:n=j
     · subst e;simp [hp]
     · have h2:decide (j < n + 1)=decide (j < n):=by
        rw [yo];simp;omega
       rw [h2];simp
theorem Xx {p:Nat→Bool} {n:Nat}:mkm p n < 2 ^ n:=by
 apply Nat.lt_pow_two_of_testBit
 intro j hj
 rw [yj]
 have:decide (j < n)=false:=by simp;omega
 rw [this];rfl
theorem xU {p:Nat→Bool} {n:Nat} (h:n≤62):mkm p n < 9223372036854775808:=Nat.lt_trans Xx (YB h)
theorem Zy {p q:Nat→Bool} {n:Nat} (h:∀ j,j < n→p j=q j):mkm p n=mkm q n:=by
 apply ZX;intro j
 rw [yj,yj]
 by_cases hj:j < n
 · rw [h j hj]
 · simp [hj]
theorem uK {p:Nat→Bool} {n m:Nat} (hm:∀ j,m.testBit j=(decide (j < n) && p j)):m=mkm p n:=by
 apply ZX;intro j;rw [hm,yj]
def ZU (g:Gr) (a b:Nat) (i:Nat):Bool:=((g.2.getD i (0,0)).1 == (a:Int) && (g.2.getD i (0,0)).2 == (b:Int)) || ((g.2.getD i (0,0)).1 == (b:Int) && (g.2.getD i (0,0)).2 == (a:Int))
def adj (g:Gr) (a b:Nat):Bool:=uC (ZU g a b) g.2.length
theorem zeG {g:Gr} {a b i:Nat}:ZU g a b i=ZU g b a i:=by unfold ZU;rw [Bool.or_comm]
theorem JS {g:Gr} {a b:Nat}:adj g a b=adj g b a:=KR fun _ _=>zeG
theorem Mf {g:Gr} (hg:yz g=true) {a b:Nat} (h:adj g a b=true):(a:Int) < g.1∧(b:Int) < g.1∧a≠b:=by
 unfold adj at h
 obtain ⟨i,hi,h⟩:=xT.1 h
 obtain ⟨e1,e2,e3⟩:=UB hg hi
 unfold ZU at h
 simp only [yH,zk,yO] at h
 omega
theorem zbd {F:Nat} {g:Gr} {a b:Nat} (hF:g.2.length < F) (hs:Sm g.2.length):Xj F g (a:Int) (b:Int)=some (adj g a b):=by
 unfold Xj
 rw [Zv (L:=fun k i=>xv F (a:Int) (b:Int) g k i) (n:=g.2.length) (p:=fun i=>!ZU g a b i) (bad:=some true) (fin:=some false) ?_ ?_ F hF]
 · unfold adj;rw [MZ];cases vn (fun i=>!ZU g a b i) g.2.length <;> rfl
 · intro k i hi
   simp only [xv,Za]
   rw [zY (d:=(0,0)) hi,yk hi hs]
   have hlt:decide ((i:Int) < g.2.length)=true:=by simp [hi]
   rw [hlt,zl,zc]
   unfold ZU
   generalize g.2.getD i (0,0)=e
   generalize (e.1 == (a:Int))=b1
   generalize (e.2 == (b:Int))=b2
   generalize (e.1 == (b:Int))=b3
   generalize (e.2 == (a:Int))=b4
   cases b1 <;> cases b2 <;> cases b3 <;> cases b4 <;> rfl
 · intro k;simp [xv]
def yF (g:Gr):List Int:=(List.range g.1.toNat).map fun x=>((mkm (adj g x) g.1.toNat:Nat):Int)
theorem vz {g:Gr}:(yF g).length=g.1.toNat:=by simp [yF]
theorem LP {g:Gr} {x:Nat} (h:x < g.1.toNat):(yF g).getD x 0=((mkm (adj g x) g.1.toNat:Nat):Int):=by
 simp [yF,zC,h]
theorem Jz {F:Nat} {g:Gr} (hg:yz g=true) (hF:g.2.length < F) (hs:Sm g.2.length):YA F g=some ⟨yF g⟩:=by
 have h8:=zT hg
 obtain ⟨n,hn⟩:∃ n:Nat,g.1=n:=⟨g.1.toNat,by omega⟩
 unfold YA
 rw [hn,Uh (by omega),zc]
 refine wU (L:=fun k i s=>YE F g k s i) (n:=g.2.length) (fun i w=>w.length=n∧∀ x,x < n→∃ m:Nat,w.getD x 0=(m:Int)∧Xy m (fun j=>uC (ZU g x j) i)) ?_ ?_ F _ hF ?_
 · intro k i w hi ⟨hl,hw⟩
   obtain ⟨e1,e2,e3⟩:=UB hg hi
   simp only [YE]
   rw [zY (d:=(0,0)) hi,yk hi hs]
   have hlt:decide ((i:Int) < g.2.length)=true:=by simp [hi]
   rw [hlt,zl,zc]
   obtain ⟨a,ha⟩:∃ a:Nat,(g.2.getD i (0,0)).1=a:=⟨(g.2.getD i (0,0)).1.toNat,by omega⟩
   obtain ⟨b,hb⟩:∃ b:Nat,(g.2.getD i (0,0)).2=b:=⟨(g.2.getD i (0,0)).2.toNat,by omega⟩
   have hj:∀ x j,ZU g x j i=((x == a && j == b) || (x == b && j == a)):=by
    intro x j
    unfold ZU
    rw [ha,hb,yo]
    simp
    omega
   rw [ha] at e1 e2 ⊢
   rw [hb] at e2 e3 ⊢
   obtain ⟨ma,hma,hma2⟩:=hw a (by omega)
   obtain ⟨mb,hmb,hmb2⟩:=hw b (by omega)
   have ia:idx w (a:Int)=some (ma:Int):=by rw [zY (d:=0) (by omega),hma]
   rw [ia,zc,xB (by omega),zc,zc,Wf hma2.1 (YB (by omega)),z5]
   have ib:idx (w.set a ((ma ||| 2 ^ b:Nat):Int)) (b:Int)=some (mb:Int):=by
    rw [zY (d:=0) (by simp;omega),Zx (by omega),if_neg (by omega),hmb]
   rw [ib,zc,xB (by omega),zc,zc,Wf hmb2.1 (YB (by omega)),z5]
   refine ⟨_,⟨by simp [hl],?_⟩,rfl⟩
   intro x hx
   rw [Zx (by simp;omega),Zx (by omega)]
   by_cases exb:b=x
   · subst exb
     rw [if_pos rfl]
     refine ⟨_,rfl,Nat.or_lt_two_pow (n:=63) hmb2.1 (YB (by omega)),fun j=>?_⟩
     rw [ZC,hmb2.2,uF]
     show (uC (ZU g b j) i || decide (a=j))=(uC (ZU g b j) i || ZU g b j i)
     rw [hj]
     congr 1
     rw [yo];simp;omega
   · rw [if_neg exb]
     by_cases exa:a=x
     · subst exa
       rw [if_pos rfl]
       refine ⟨_,rfl,Nat.or_lt_two_pow (n:=63) hma2.1 (YB (by omega)),fun j=>?_⟩
       rw [ZC,hma2.2,uF]
       show (uC (ZU g a j) i || decide (b=j))=(uC (ZU g a j) i || ZU g a j i)
       rw [hj]
       congr 1
       rw [yo];simp;omega
     · rw [if_neg exa]
       obtain ⟨m,h1,h2⟩:=hw x hx
       refine ⟨m,h1,h2.1,fun j=>?_⟩
       rw [h2.2]
       show uC (ZU g x j) i=(uC (ZU g x j) i || ZU g x j i)
       have:ZU g x j i=false:=by
        rw [hj,Bool.eq_false_iff];intro h;simp at h;omega
       rw [this,uT]
 · intro k w ⟨hl,hw⟩
   simp only [YE]
   have hlt:decide ((g.2.length:Int) < g.2.length)=false:=by simp
   rw [hlt,zi]
   have:w=yF g:=by
    apply List.ext_getElem (by rw [hl,vz,hn];simp)
    intro x h1 h2
    obtain ⟨m,h3,h4⟩:=hw x (by omega)
    have h5:=LP (g:=g) (x:=x) (by rw [vz] at h2;exact h2)
    rw [zC,zX h1] at h3
    rw [zC,zX h2] at h5
    simp at h3 h5
    rw [h3,h5]
    congr 1
    refine uK fun j=>?_
    rw [h4.2,hn,z5]
    by_cases hj:j < n
    · simp [hj,adj]
    · have:adj g x j=false:=by
       rw [Bool.eq_false_iff];intro h;have:=Mf hg h;omega
      simp only [hj,decide_false,vf];exact this
   rw [this]
 · refine ⟨by simp,fun x hx=>⟨0,by simp [zC,hx],by omega,fun j=>by simp [uC]⟩⟩
def J5 (g:Gr) (p:Nat→Bool) (j:Nat):Bool:=p j || uC (fun x=>p x && adj g x j) g.1.toNat
theorem Kr {F:Nat} {g:Gr} {p:Nat→Bool} (hg:yz g=true) (hF:9≤F) :
    vZ F ⟨yF g⟩ ((mkm p g.1.toNat:Nat):Int)=some ((mkm (J5 g p) g.1.toNat:Nat):Int):=by
 have h8:=zT hg
 obtain ⟨n,hn⟩:∃ n:Nat,g.1=n:=⟨g.1.toNat,by omega⟩
 unfold vZ
 refine wU (L:=fun k i s=>xG F ((mkm p g.1.toNat:Nat):Int) ⟨yF g⟩ k s i) (n:=n) (fun i s=>s=((mkm (fun j=>p j || uC (fun x=>p x && adj g x j) i) n:Nat):Int)) ?_ ?_ F _ (by omega) ?_
 · intro k i s hi hs
   subst hs
   simp only [xG,Zw]
   have hnn:g.1.toNat=n:=by omega
   have hlt:decide ((i:Int) < ((yF g).length:Int))=true:=by rw [vz];simp;omega
   rw [hlt,zl,zY (d:=0) (by rw [vz];omega),zc,LP (by omega),hnn]
   obtain ⟨q,hq,hq1,_⟩:=KT (m:=mkm p n) (j:=i) (xU (by omega)) (by omega)
   rw [hq,zc,hq1,yj,yk hi (by unfold Sm;omega)]
   have hd:decide (i < n)=true:=by simp [hi]
   rw [hd,z7]
   cases hp:p i with
   | true=>
     rw [zl,Wf (xU (by omega)) (xU (by omega))]
     refine ⟨_,?_,rfl⟩
     congr 1
     refine uK fun j=>?_
     rw [ZC,yj,yj]
     simp only [uC,hp,z7]
     cases decide (j < n) <;> simp [Bool.or_assoc]
   | false=>
     rw [zi]
     refine ⟨_,?_,rfl⟩
     congr 1
     refine Zy fun j _=>?_
     simp [uC,hp]
 · intro k s hs
   subst hs
   simp only [xG]
   have hlt:decide ((n:Int) < ((yF g).length:Int))=false:=by rw [vz];simp;omega
   rw [hlt,zi]
   have hnn:g.1.toNat=n:=by omega
   unfold J5
   rw [hnn]
 · have hnn:g.1.toNat=n:=by omega
   rw [hnn]
   congr 1
   refine Zy fun j _=>?_
   simp [uC]
def y8 (p:Nat→Bool) (n:Nat):Nat:=(List.range n).countP p
theorem XF {p q:Nat→Bool} {n:Nat} (h:∀ j,j < n→p j=q j):y8 p n=y8 q n:=by
 unfold y8
 apply List.countP_congr
 intro x hx
 rw [h x (by simpa using hx)]
def UW (m:Nat):Nat:=y8 m.testBit 8
theorem zij:∀ m:Nat,m < 256→wo 0 (Kd.mk (IntKind.u64.wrap (m:Int)):Kd .u64)=some (UW m:Int):=by decide +kernel
theorem MW {F m:Nat} (h:m < 256):wo F (Kd.mk (IntKind.u64.wrap (m:Int)):Kd .u64)=some (UW m:Int):=zij m h
theorem JB {p:Nat→Bool} {n:Nat} (hn:n≤8):UW (mkm p n)=y8 p n:=by
 unfold UW
 have h1:y8 (mkm p n).testBit 8=y8 (fun j=>decide (j < n) && p j) 8:=XF fun j _=>yj n j
 rw [h1]
 unfold y8
 have:List.range 8=List.range n++(List.range (8 - n)).map (n + ·):=by
  have:=@List.range_add n (8 - n)
  rwa [show n + (8 - n)=8 by omega] at this
 rw [this,List.countP_append]
 have h2:((List.range (8 - n)).map (n + ·)).countP (fun j=>decide (j < n) && p j)=0:=by
  rw [List.countP_eq_zero]
  intro x hx
  simp at hx
  obtain ⟨y,_,rfl⟩:=hx
  have:¬ n + y < n:=by omega
  simp only [this,decide_false,vf,ya,not_false_eq_true]
 rw [h2,Nat.add_zero]
 apply List.countP_congr
 intro x hx
 simp at hx
 simp [hx]
theorem Lp {p:Nat→Bool} {n:Nat} (hn:n≤8):mkm p n < 256:=by
 have:=Xx (p:=p) (n:=n)
 have:=xw (n:=2) (by decide) hn
 omega
def zp (p:Nat→Bool) (n:Nat):List Int:=((List.range n).filter p).map fun (j:Nat)=>(j:Int)
theorem y9 {p:Nat→Bool} {n:Nat}:(zp p n).length=y8 p n:=by
 simp [zp,y8,List.countP_eq_length_filter]
theorem Jl {p:Nat→Bool} {n:Nat}:zp p (n + 1)=zp p n++(if p n then [(n:Int)] else []):=by
 simp only [zp,Xw,List.filter_append,List.map_append]
 by_cases h:p n=true
 · simp [h]
 · rw [Wv] at h;simp [h]
theorem wS {p q:Nat→Bool} {n:Nat} (h:∀ j,j < n→p j=q j):zp p n=zp q n:=by
 unfold zp
 congr 1
 apply List.filter_congr
 intro x hx
 exact h x (by simpa using hx)
theorem wt {p:Nat→Bool} {n:Nat}:y8 p n≤n:=by
 have:=List.countP_le_length (p:=p) (l:=List.range n)
 unfold y8;simpa using this
theorem LU:∀ (n:Nat) (l:List Int),l.Nodup→(∀ x∈l,0≤x∧x < n)→y8 (fun j=>decide ((j:Int)∈l)) n=l.length
 | 0,l,_,h=>by
   cases l with
   | nil=>rfl
   | cons x l=>have:=h x (by simp);omega
 | n + 1,l,hn,h=>by
   have hs:∀ x∈l.erase (n:Int),0≤x∧x < n:=by
    intro x hx
    have h1:=(hn.mem_erase_iff).1 hx
    have:=h x h1.2
    omega
   have ih:=LU n (l.erase (n:Int)) (hn.erase _) hs
   have hc:y8 (fun j=>decide ((j:Int)∈l.erase (n:Int))) n=y8 (fun j=>decide ((j:Int)∈l)) n:=by
    apply XF
    intro j hj
    rw [yo]
    simp only [z8]
    rw [List.mem_erase_of_ne (by omega)]
   rw [hc] at ih
   unfold y8 at *
   rw [Xw,List.countP_append,ih]
   by_cases hm:(n:Int)∈l
   · rw [List.length_erase_of_mem hm]
     have:=List.length_pos_of_mem hm
     simp [hm];omega
   · rw [List.erase_of_not_mem hm]
     simp [hm]
theorem zc9 {n:Nat} {ps:List Int} {x:Int} (h0:0≤x) (he:Yq n ps x=true):(yX ps (n + 1) x).Nodup:=by
 have h3:=uL ps (n + 1) x h0
 unfold Yq at he
 simp only [z8] at he
 have hend:=h3.2.2.1 (by omega)
 rw [List.Nodup,List.pairwise_iff_getElem]
 intro i j hi hj hij e
 have e1:=h3.1 i hi
 have e2:=h3.1 j hj
 rw [zC,zX hi] at e1
 rw [zC,zX hj] at e2
 simp only [yV] at e1 e2
 have h5:=h3.2.1 (j + 1) (by omega)
 have:=Mb (a:=i + 1) (b:=j + 1) (by omega) (by rw [← e1,← e2,e]) h5 ((yX ps (n + 1) x).length + 1)
 omega
theorem zei {n:Nat} {ps:List Int} {x:Int} (h:Lu n ps) (h0:0≤x) (hx:x < n):∀ y∈yX ps (n + 1) x,0≤y∧y < n:=by
 intro y hy
 obtain ⟨t,ht,rfl⟩:=(WC h0).1 hy
 exact ⟨(uL ps (n + 1) x h0).2.1 (t + 1) (by omega),Qk h hx _⟩
theorem zhK {n x:Nat} {ps ab:List Int} (h:Lu n ps) (hn:n≤8) (ha:Lm n ps ab) (hx:x < n) (he:Yq n ps (x:Int)=true):∃ m:Nat,ab.getD x 0=(m:Int)∧m < 256∧UW m=(yX ps (n + 1) (x:Int)).length:=by
 obtain ⟨m,h1,h2⟩:=ha.2 x hx
 have hr:=zei h (x:=(x:Int)) (by omega) (by omega)
 have hm:m=mkm (fun j=>decide ((j:Int)∈yX ps (n + 1) (x:Int))) n:=by
  refine uK fun j=>?_
  rw [h2.2,yo]
  simp only [zk,z8]
  constructor
  · intro hj;have:=hr _ hj;exact ⟨by omega,hj⟩
  · exact fun hj=>hj.2
 refine ⟨m,h1,by rw [hm];exact Lp hn,?_⟩
 rw [hm,JB hn]
 exact LU n _ (zc9 (by omega) he) hr
def Srt (l:List Int):Prop:=l.Pairwise (· < ·)
theorem zfB:∀ (a b:List Int),Srt a→Srt b→(∀ y,y∈a↔y∈b)→a=b
 | [],[],_,_,_=>rfl
 | [],y :: b,_,_,h=>by have:=(h y).2 (by simp);cases this
 | x :: a,[],_,_,h=>by have:=(h x).1 (by simp);cases this
 | x :: a,y :: b,ha,hb,h=>by
   unfold Srt at ha hb
   rw [List.pairwise_cons] at ha hb
   have e:x=y:=by
    have h1:=(h x).1 (by simp)
    have h2:=(h y).2 (by simp)
    rcases z2.1 h1 with e | h1
    · exact e
    · rcases z2.1 h2 with e | h2
      · exact e.symm
      · have:=ha.1 y h2;have:=hb.1 x h1;omega
   subst e
   congr 1
   refine zfB a b ha.2 hb.2 fun y=>?_
   have:=h y
   simp only [z2] at this
   constructor
   · intro hy
     rcases this.1 (.inr hy) with e | h'
     · have:=ha.1 y hy;omega
     · exact h'
   · intro hy
     rcases this.2 (.inr hy) with e | h'
     · have:=hb.1 y hy;omega
     · exact h'
theorem xr {p:Nat→Bool} {n:Nat} {y:Int}:y∈zp p n↔∃ j:Nat,y=j∧j < n∧p j=true:=by
 unfold zp
 simp only [xb,XA,vP]
 constructor
 · rintro ⟨j,⟨h1,h2⟩,rfl⟩;exact ⟨j,rfl,h1,h2⟩
 · rintro ⟨j,rfl,h1,h2⟩;exact ⟨j,⟨h1,h2⟩,rfl⟩
theorem Kl {p:Nat→Bool} {n:Nat}:Srt (zp p n):=by
 unfold Srt zp
 rw [List.pairwise_map]
 have h1:(List.range n).Pairwise (· < ·):=List.pairwise_lt_range
 exact (List.Pairwise.filter _ h1).imp fun h=>by omega
theorem Lz {l:List Int} {p:Nat→Bool} {n:Nat} (h:Srt l) (hm:∀ y,y∈l↔∃ j:Nat,y=j∧j < n∧p j=true):l=zp p n:=
 zfB _ _ h Kl fun y=>(hm y).trans xr.symm
def znK (f:Nat→Nat):Nat→Nat
 | 0=>0
 | n + 1=>znK f n + f n
theorem Lo {p:Nat→Bool}:∀ {n:Nat},y8 p n=znK (fun j=>if p j then 1 else 0) n
 | 0=>rfl
 | n + 1=>by
   have:y8 p (n + 1)=y8 p n + (if p n then 1 else 0):=by
    unfold y8
    rw [Xw,List.countP_append]
    by_cases h:p n=true <;> simp [h]
   rw [this,Lo (n:=n)];rfl
theorem N0 {m i:Nat} (hi:i≤64):UD .i64 (m:Int) (i:Int)=some ((m / 2 ^ i:Nat):Int):=by
 rw [zhi,Nat.min_eq_left hi]
theorem JH {F n:Nat} {p:Nat→Bool} (hn:n≤8) (hF:20≤F):XN F ((mkm p n:Nat):Int)=some (zp p n):=by
 have key:∀ d k i (l:NL Int),i + d=n→d < k→l.list=zp p i→uu F ((mkm p n:Nat):Int) k l (i:Int)=some (zp p n):=by
  intro d
  induction d with
  | zero=>
    intro k i l hi hk hl
    obtain ⟨k,rfl⟩:∃ k',k=k' + 1:=⟨k - 1,by omega⟩
    obtain rfl:i=n:=by omega
    simp only [uu]
    rw [N0 (by omega),zc,Nat.div_eq_of_lt Xx,hl];rfl
  | succ d ih=>
    intro k i l hi hk hl
    obtain ⟨k,rfl⟩:∃ k',k=k' + 1:=⟨k - 1,by omega⟩
    simp only [uu,W7]
    rw [N0 (by omega),zc]
    have hw:w64 ((i:Int) + 1)=((i + 1:Nat):Int):=yk (n:=n) (by omega) (by unfold Sm;omega)
    by_cases hz:mkm p n / 2 ^ i=0
    · have:(((mkm p n / 2 ^ i:Nat):Int) != 0)=false:=by rw [hz];rfl
      rw [this,zi,hl]
      have hlt:mkm p n < 2 ^ i:=by
       rcases Nat.div_eq_zero_iff.1 hz with h | h
       · have:=yi i;omega
       · exact h
      have hp:∀ j,i≤j→j < n→p j=false:=by
       intro j h1 h2
       have hb:=yj (p:=p) n j
       have:(mkm p n).testBit j=false:=Nat.testBit_lt_two_pow (xy hlt (xw (by decide) h1))
       rw [this] at hb
       simpa [h2] using hb.symm
      have:∀ e,i + e≤n→zp p (i + e)=zp p i:=by
       intro e
       induction e with
       | zero=>intro _;rfl
       | succ e ihe=>intro he;rw [show i + (e + 1)=(i + e) + 1 by omega,Jl,hp (i + e) (by omega) (by omega),ihe (by omega)];simp
      have h3:=this (n - i) (by omega)
      rw [show i + (n - i)=n by omega] at h3
      rw [h3]
    · have:(((mkm p n / 2 ^ i:Nat):Int) != 0)=true:=by
       rw [bne_iff_ne];intro h;exact hz (by exact_mod_cast h)
      rw [this,zl]
      obtain ⟨q,hq,hq1,_⟩:=KT (m:=mkm p n) (j:=i) (xU (by omega)) (by omega)
      have hd:decide (i < n)=true:=zt (by omega)
      have hq':((mkm p n / 2 ^ i:Nat):Int)=q:=Option.some.inj (by rw [← N0 (by omega),hq])
      rw [zc,hq',hq1,yj,hd,z7,hw]
      have hc:=wt (p:=p) (n:=i)
      have hs:=Jl (p:=p) (n:=i)
      cases hp:p i with
      | true=>
        rw [zl,hl,XS (by rw [y9];omega),zc]
        refine ih k (i + 1) _ (by omega) (by omega) ?_
        rw [hs,hp];rfl
      | false=>
        rw [zi]
        refine ih k (i + 1) _ (by omega) (by omega) ?_
        rw [hs,hp,hl];simp
 unfold XN
 exact key n F 0 .nil (by omega) (by omega) rfl
theorem Kb {α β:Type} {h:β→α→β} {d:α}:∀ (l:List α) (s:β),(List.range l.length).foldl (fun s i=>h s (l.getD i d)) s=l.foldl h s
 | [],s=>rfl
 | x :: l,s=>by
   rw [Yk,List.range_succ_eq_map,List.foldl_cons,List.foldl_map]
   simp only [List.getD_cons_zero,List.getD_cons_succ]
   exact Kb l (h s x)
/-! the number of edges that leave a set,counted by edges and by nodes -/
def Yo (l:List Int) (i:Nat) (j:Nat):Bool:=decide ((j:Int)∈l.take i)
theorem NQ {l:List Int} {i x:Nat} (hi:i < l.length) (hx:l.getD i 0=(x:Int)):∀ j,Yo l (i + 1) j=(Yo l i j || j == x):=by
 intro j
 unfold Yo
 rw [List.take_add_one,zX hi,yo]
 have:l[i]=(x:Int):=by rw [← hx,zC,zX hi];rfl
 have h2:((j:Int)=(x:Int))↔j=x:=by omega
 simp [this,h2]
theorem w7 {p:Nat→Bool} {n i:Nat} (hi:i < (zp p n).length):∃ j:Nat,(zp p n).getD i 0=j∧j < n∧p j=true:=xr.1 (vo hi)
theorem zjz {l:List Int} (h:Srt l) {i j:Nat} (hij:i < j) (hj:j < l.length):l.getD i 0 < l.getD j 0:=by
 have:=List.pairwise_iff_getElem.1 h i j (by omega) hj hij
 rw [zC,zX (by omega),zC,zX hj]
 exact this
def vH (l:List Int) (x:Int):Nat:=l.findIdx fun y=>!decide (y < x)
theorem zef {l:List Int} {x:Int} {j:Nat} (hj:j < vH l x) (hl:j < l.length):l.getD j 0 < x:=by
 have:=List.not_of_lt_findIdx (p:=fun y=>!decide (y < x)) (xs:=l) hj
 rw [zC,zX hl]
 simpa using this
theorem zdO {l:List Int} {x:Int} (h:vH l x < l.length):¬ l.getD (vH l x) 0 < x:=by
 have:=List.findIdx_getElem (p:=fun y=>!decide (y < x)) (xs:=l) (w:=h)
 rw [zC,zX h]
 intro hlt
 simp only [yV] at hlt
 have e:l[List.findIdx (fun y=>!decide (y < x)) l] < x:=hlt
 rw [zt e] at this
 cases this
theorem zjL {l:List Int} {x:Int}:vH l x≤l.length:=List.findIdx_le_length
theorem zel {α:Type} {xs:List α} {i:Nat} (h:i≤xs.length):sub xs (i:Int) (xs.length:Int)=some (xs.drop i):=by
 unfold sub
 rw [if_pos ⟨by omega,by omega,by omega⟩]
 simp only [z5]
 rw [List.take_of_length_le (by simp)]
theorem QN {α:Type} {xs:List α} {i:Nat} (h:i≤xs.length):sub xs 0 (i:Int)=some (xs.take i):=by
 unfold sub
 rw [if_pos ⟨by omega,by omega,by omega⟩]
 simp
theorem NM {α:Type} {xs ys:List α} (h:xs.length + ys.length≤1099511627776):uQ xs ys=some (xs++ys):=by
 unfold uQ
 rw [if_pos]
 have:(2:Nat) ^ 40=1099511627776:=by decide
 omega
def zhw (l:List Int) (x:Int):List Int:=if vH l x < l.length∧l.getD (vH l x) 0=x then l else l.take (vH l x)++[x]++l.drop (vH l x)
theorem zlM {F:Nat} {l:List Int} {x:Int} (hF:l.length < F) (hl:l.length≤1000):Wq F l x=some (zhw l x):=by
 unfold Wq
 have hle:=zjL (l:=l) (x:=x)
 refine zgd (L:=fun k i=>ux F l x k i) (n:=vH l x) ?_ ?_ F (by omega)
 · intro k i hi
   simp only [ux,Xz]
   have hlt:decide ((i:Int) < (l.length:Int))=true:=zt (by omega)
   have hx:=zef hi (by omega)
   rw [hlt,zl,zY (d:=0) (by omega),zc,zt hx,zl,yk hi (by unfold Sm;omega)]
 · intro k
   have hfin:XC F l x (vH l x:Int) false=some (l.take (vH l x)++[x]++l.drop (vH l x)):=by
    unfold XC
    rw [zi,QN hle,zc,NM (by simp;omega),zc,NM (by simp;omega),zc,zel hle,zc,NM (by simp;omega),zc]
    simp
   unfold zhw
   simp only [ux,Xz]
   by_cases h:vH l x < l.length
   · have hlt:decide ((vH l x:Int) < (l.length:Int))=true:=zt (by omega)
     have hx:=zdO h
     rw [hlt,zl,zY (d:=0) h,zc,zL hx,zi,zl,zc]
     by_cases e:l.getD (vH l x) 0=x
     · have:(l.getD (vH l x) 0 == x)=true:=by simpa using e
       rw [this,if_pos ⟨h,e⟩];rfl
     · have:(l.getD (vH l x) 0 == x)=false:=by rw [beq_eq_false_iff_ne];exact e
       rw [this,if_neg (fun h=>e h.2)];exact hfin
   · have hlt:decide ((vH l x:Int) < (l.length:Int))=false:=zL (by omega)
     rw [hlt,zi,zi,zi,if_neg (fun h'=>h h'.1)];exact hfin
theorem ziS {l:List Int} {x y:Int}:y∈zhw l x↔y∈l∨y=x:=by
 unfold zhw
 split
 · rename_i h
   constructor
   · exact .inl
   · rintro (h' | h')
     · exact h'
     · rw [h',← h.2];exact vo h.1
 · have:y∈l↔y∈l.take (vH l x)∨y∈l.drop (vH l x):=by
    rw [← zN,Xp]
   rw [this]
   simp only [zN,wC]
   constructor
   · rintro ((h | h) | h)
     · exact .inl (.inl h)
     · exact .inr h
     · exact .inl (.inr h)
   · rintro ((h | h) | h)
     · exact .inl (.inl h)
     · exact .inr h
     · exact .inl (.inr h)
theorem ziD {l:List Int} {x:Int} (h:Srt l):Srt (zhw l x):=by
 unfold zhw
 split
 · exact h
 · rename_i hn
   have ht:∀ y∈l.take (vH l x),y < x:=by
    intro y hy
    obtain ⟨i,hi,rfl⟩:=wT.1 hy
    have hi':i < vH l x∧i < l.length:=by simp at hi;omega
    have:=zef hi'.1 hi'.2
    rw [zC,zX hi'.2] at this
    simpa using this
   have hd:∀ y∈l.drop (vH l x),x < y:=by
    intro y hy
    obtain ⟨i,hi,rfl⟩:=wT.1 hy
    have hi':vH l x + i < l.length:=by simp at hi;omega
    have h1:=zdO (l:=l) (x:=x) (by omega)
    have h2:l.getD (vH l x) 0≠x:=fun e=>hn ⟨by omega,e⟩
    have h3:l.getD (vH l x) 0≤l.getD (vH l x + i) 0:=by
     by_cases e:i=0
     · subst e;exact ZB _
     · exact Int.le_of_lt (zjz h (by omega) hi')
    have h4:l.getD (vH l x + i) 0=(l.drop (vH l x))[i]:=by
     rw [List.getElem_drop,zC,zX hi'];rfl
    omega
   unfold Srt at h ⊢
   have h0:(l.take (vH l x)++l.drop (vH l x)).Pairwise (· < ·):=by rw [Xp];exact h
   rw [List.pairwise_append] at h0
   rw [List.append_assoc,List.pairwise_append]
   refine ⟨h0.1,?_,?_⟩
   · rw [List.singleton_append,List.pairwise_cons]
     exact ⟨hd,h0.2.1⟩
   · intro a ha b hb
     rw [List.singleton_append,z2] at hb
     rcases hb with rfl | hb
     · exact ht a ha
     · exact h0.2.2 a ha b hb
theorem zkK {F n x:Nat} {p:Nat→Bool} (hn:n≤8) (hx:x < n) (hF:20≤F):Wq F (zp p n) (x:Int)=some (zp (fun j=>p j || j == x) n):=by
 have hc:=wt (p:=p) (n:=n)
 rw [zlM (by rw [y9];omega) (by rw [y9];omega)]
 congr 1
 refine Lz (ziD Kl) fun y=>?_
 rw [ziS,xr]
 constructor
 · rintro (⟨j,rfl,h1,h2⟩ | rfl)
   · exact ⟨j,rfl,h1,by simp [h2]⟩
   · exact ⟨x,rfl,hx,by simp⟩
 · rintro ⟨j,rfl,h1,h2⟩
   simp only [yH,yO] at h2
   rcases h2 with h2 | h2
   · exact .inl ⟨j,rfl,h1,h2⟩
   · exact .inr (by omega)
theorem Kt {F n:Nat} {p:Nat→Bool} {x:Nat} (hn:n≤8) (hx:x < n) (hF:20≤F):Yz F (zp p n) (x:Int)=some (p x):=by
 have hc:=wt (p:=p) (n:=n)
 rw [zd5 (by rw [y9];omega) (by rw [y9];unfold Sm;omega)]
 congr 1
 rw [yo,z8,xr]
 constructor
 · rintro ⟨j,h1,_,h3⟩;obtain rfl:x=j:=by omega
   exact h3
 · exact fun h=>⟨x,rfl,hx,h⟩
theorem zhm {F n code:Nat} (hn:n≤8) (hc:code < 9223372036854775808) (hF:20≤F):XX F (n:Int) (code:Int)=some (zp code.testBit n):=by
 unfold XX
 refine wU (L:=fun k i s=>vr F (n:Int) (code:Int) k s i) (n:=n) (fun i s=>s=zp code.testBit i) ?_ ?_ F _ (by omega) rfl
 · intro k i s hi hI
   subst hI
   refine ⟨_,rfl,?_⟩
   simp only [vr,XU]
   have hlt:decide ((i:Int) < (n:Int))=true:=zt (by omega)
   obtain ⟨q,hq,hq1,_⟩:=KT (m:=code) (j:=i) hc (by omega)
   have hcl:=wt (p:=code.testBit) (n:=i)
   rw [hlt,zl,hq,zc,hq1,yk hi (by unfold Sm;omega),Jl]
   cases code.testBit i with
   | true=>rw [zl,XS (by rw [y9];omega),zc];rfl
   | false=>rw [zi];simp
 · intro k s hI
   subst hI
   simp only [vr]
   have hlt:decide ((n:Int) < (n:Int))=false:=zL (by omega)
   rw [hlt,zi]
theorem zgL {p:Nat→Bool} {n:Nat}:mkm p (n + 1)=mkm p n + (if p n then 2 ^ n else 0):=by
 by_cases h:p n=true
 · rw [if_pos h]
   have hlt:=Xx (p:=p) (n:=n)
   have:mkm p n + 2 ^ n=2 ^ n * 1 + mkm p n:=by omega
   rw [this,Nat.two_pow_add_eq_or_of_lt hlt 1]
   rw [mkm,if_pos h,Nat.or_comm,Nat.mul_one]
 · rw [if_neg h,mkm,if_neg h];simp
theorem zgg {F n:Nat} {p:Nat→Bool} (hn:n≤8) (hF:20≤F):XW F (zp p n)=some ((mkm p n:Nat):Int):=by
 have hc:=wt (p:=p) (n:=n)
 unfold XW
 have hsum:∀ m (s:Int),(zp p m).foldl (fun s y=>s + ((2 ^ y.toNat:Nat):Int)) s=s + ((mkm p m:Nat):Int):=by
  intro m
  induction m with
  | zero=>intro s;simp [zp,mkm]
  | succ m ih=>
    intro s
    rw [Jl,List.foldl_append,ih,zgL]
    by_cases h:p m=true
    · simp [h];omega
    · rw [Wv] at h;simp [h]
 obtain ⟨s,_,h2,h3⟩:∃ s:Int,(∃ c:Nat,s=c∧c≤(zp p n).length * 256)∧uX F (zp p n) F 0 0=some s∧s=(List.range (zp p n).length).foldl (fun s i=>s + ((2 ^ ((zp p n).getD i 0).toNat:Nat):Int)) 0:=by
  refine Uw (L:=fun k t s=>uX F (zp p n) k s t) (n:=(zp p n).length) (fun i (s:Int)=>∃ c:Nat,s=c∧c≤i * 256) (fin:=fun s=>some s) (fun i s=>s + ((2 ^ ((zp p n).getD i 0).toNat:Nat):Int)) ?_ ?_ ?_ F 0 (by rw [y9];omega) ⟨0,rfl,by omega⟩
  · rintro k t s ht ⟨c,hcs,hc2⟩
    have hl8:(zp p n).length≤8:=by rw [y9];omega
    obtain ⟨j,hj,hjn,_⟩:=w7 ht
    have hp:2 ^ j≤256:=by
     have:=xw (n:=2) (by decide) (show j≤8 by omega);omega
    simp only [uX]
    have hlt:decide ((t:Int) < ((zp p n).length:Int))=true:=zt (by omega)
    rw [hlt,zl,zY (d:=0) ht,zc,hj,xB (by omega),zc,yk ht (by unfold Sm;omega),z5]
    generalize 2 ^ j=q at hp ⊢
    rw [xp (by omega) (by omega)]
  · rintro t s ht ⟨c,hcs,hc2⟩
    obtain ⟨j,hj,hjn,_⟩:=w7 ht
    have hp:2 ^ j≤256:=by
     have:=xw (n:=2) (by decide) (show j≤8 by omega);omega
    rw [hj,z5]
    exact ⟨c + 2 ^ j,by omega,by omega⟩
  · rintro k s _
    simp only [uX]
    have hlt:decide (((zp p n).length:Int) < ((zp p n).length:Int))=false:=zL (by omega)
    rw [hlt,zi]
 have h5:=Kb (h:=fun (s:Int) (y:Int)=>s + ((2 ^ y.toNat:Nat):Int)) (d:=0) (zp p n) 0
 rw [h2,h3,h5,hsum];simp
def stp (g:Gr) (p q:Nat→Bool) (j:Nat):Bool:=q j || (p j && uC (fun y=>q y && adj g y j) g.1.toNat)
def rch (g:Gr) (p:Nat→Bool) (x:Nat):Nat→Nat→Bool
 | 0=>fun j=>j == x
 | t + 1=>stp g p (rch g p x t)
def yY (g:Gr) (p:Nat→Bool) (x:Nat):Nat→Bool:=rch g p x g.1.toNat
theorem Ue {g:Gr} {p q:Nat→Bool} {j:Nat}:stp g p q j=true↔q j=true∨(p j=true∧∃ y,y < g.1.toNat∧q y=true∧adj g y j=true):=by
 unfold stp
 rw [yH,zk,xT]
 constructor
 · rintro (h | ⟨h,y,h1,h2⟩)
   · exact .inl h
   · rw [zk] at h2;exact .inr ⟨h,y,h1,h2.1,h2.2⟩
 · rintro (h | ⟨h,y,h1,h2,h3⟩)
   · exact .inl h
   · exact .inr ⟨h,y,h1,by rw [h2,h3];rfl⟩
theorem X1 {g:Gr} {p:Nat→Bool} {x t j:Nat} (h:rch g p x t j=true):∀ s,t≤s→rch g p x s j=true:=by
 intro s hs
 induction s with
 | zero=>obtain rfl:t=0:=by omega
         exact h
 | succ s ih=>
   by_cases e:t=s + 1
   · subst e;exact h
   · exact Ue.2 (.inl (ih (by omega)))
theorem Mj {g:Gr} {p:Nat→Bool} {x:Nat} (hx:p x=true):∀ t j,rch g p x t j=true→p j=true
 | 0,j,h=>by
   have:j=x:=by simpa [rch] using h
   subst this;exact hx
 | t + 1,j,h=>by
   rcases Ue.1 h with h | h
   · exact Mj hx t j h
   · exact h.1
theorem LS {g:Gr} (hg:yz g=true) {p:Nat→Bool} {x:Nat} (hx:x < g.1.toNat):∀ t j,rch g p x t j=true→j < g.1.toNat
 | 0,j,h=>by
   have:j=x:=by simpa [rch] using h
   subst this;exact hx
 | t + 1,j,h=>by
   rcases Ue.1 h with h | ⟨_,y,_,_,h⟩
   · exact LS hg hx t j h
   · have:=Mf hg h
     have:=zT hg
     omega
theorem KU {g:Gr} {p C:Nat→Bool} {x:Nat} (hx:C x=true) (hC:∀ y j,C y=true→p j=true→adj g y j=true→C j=true):∀ t j,rch g p x t j=true→C j=true
 | 0,j,h=>by
   have:j=x:=by simpa [rch] using h
   subst this;exact hx
 | t + 1,j,h=>by
   rcases Ue.1 h with h | ⟨h1,y,_,h2,h3⟩
   · exact KU hx hC t j h
   · exact hC y j (KU hx hC t y h2) h1 h3
theorem Uq {p q:Nat→Bool}:∀ {n:Nat},(∀ j,j < n→p j=true→q j=true)→(∃ j,j < n∧p j=false∧q j=true)→y8 p n + 1≤y8 q n
 | 0,_,⟨_,h,_⟩=>by omega
 | n + 1,h,⟨j,hj,h1,h2⟩=>by
   rw [Lo,Lo]
   simp only [znK]
   rw [← Lo,← Lo]
   by_cases e:j=n
   · subst e
     have hle:y8 p j≤y8 q j:=by
      unfold y8
      apply List.countP_mono_left
      intro x hx
      exact h x (by have:=vP.1 hx;omega)
     rw [h1,h2];simp;omega
   · have ih:=Uq (p:=p) (q:=q) (n:=n) (fun j hj=>h j (by omega)) ⟨j,by omega,h1,h2⟩
     have hn:=h n (by omega)
     by_cases hp:p n=true
     · rw [hp,hn hp];simp;omega
     · rw [Wv] at hp;rw [hp];simp;omega
theorem XV {p q:Nat→Bool} {n:Nat} (h:∀ j,j < n→p j=true→q j=true):y8 p n≤y8 q n:=by
 unfold y8
 apply List.countP_mono_left
 intro x hx
 exact h x (vP.1 hx)
theorem JR {g:Gr} {p:Nat→Bool} {x t:Nat} (h:∀ j,rch g p x (t + 1) j=true→rch g p x t j=true):∀ s j,rch g p x (t + s) j=true→rch g p x t j=true
 | 0,j,hj=>hj
 | s + 1,j,hj=>by
   rcases Ue.1 (show stp g p (rch g p x (t + s)) j=true from hj) with h1 | ⟨h1,y,hy,h2,h3⟩
   · exact JR h s j h1
   · exact h j (Ue.2 (.inr ⟨h1,y,hy,JR h s y h2,h3⟩))
theorem Qa {g:Gr} (hg:yz g=true) {p:Nat→Bool} {x:Nat} (hx:x < g.1.toNat) (hp:p x=true):∃ t,t < y8 p g.1.toNat∧∀ j,rch g p x (t + 1) j=true→rch g p x t j=true:=by
 apply Classical.byContradiction
 intro hne
 have hstep:∀ t,t < y8 p g.1.toNat→∃ j,rch g p x (t + 1) j=true∧rch g p x t j=false:=by
  intro t ht
  apply Classical.byContradiction
  intro hno
  apply hne
  refine ⟨t,ht,fun j hj=>?_⟩
  cases h:rch g p x t j with
  | true=>rfl
  | false=>exact absurd ⟨j,hj,h⟩ hno
 have hgrow:∀ t,t≤y8 p g.1.toNat→t + 1≤y8 (rch g p x t) g.1.toNat:=by
  intro t
  induction t with
  | zero=>
    intro _
    have:=Uq (p:=fun _=>false) (q:=rch g p x 0) (n:=g.1.toNat) (by simp) ⟨x,hx,rfl,by simp [rch]⟩
    omega
  | succ t ih=>
    intro ht
    have h1:=ih (by omega)
    obtain ⟨j,hj1,hj2⟩:=hstep t (by omega)
    have:=Uq (p:=rch g p x t) (q:=rch g p x (t + 1)) (n:=g.1.toNat) (fun j _ h=>X1 h _ (by omega)) ⟨j,LS hg hx _ j hj1,hj2,hj1⟩
    omega
 have h1:=hgrow (y8 p g.1.toNat) (yP _)
 have h2:y8 (rch g p x (y8 p g.1.toNat)) g.1.toNat≤y8 p g.1.toNat:=XV fun j _ h=>Mj hp _ j h
 omega
theorem UJ {g:Gr} (hg:yz g=true) {p:Nat→Bool} {x:Nat} (hx:x < g.1.toNat) (hp:p x=true) {s:Nat} (hs:y8 p g.1.toNat≤s + 1):∀ j,rch g p x s j=yY g p x j:=by
 intro j
 obtain ⟨t,ht,hst⟩:=Qa hg hx hp
 have hcn:=wt (p:=p) (n:=g.1.toNat)
 have key:∀ s,t≤s→(rch g p x s j=true↔rch g p x t j=true):=fun s hs=>⟨fun h=>by
  have:s=t + (s - t):=by omega
  rw [this] at h;exact JR hst (s - t) j h,fun h=>X1 h s hs⟩
 rw [yo,key s (by omega)]
 unfold yY
 rw [key g.1.toNat (by omega)]
theorem vB {g:Gr} {p:Nat→Bool} {x:Nat}:yY g p x x=true:=X1 (t:=0) (by simp [rch]) _ (Nat.zero_le _)
theorem Xd {g:Gr} {p:Nat→Bool} {x j:Nat} (hx:p x=true) (h:yY g p x j=true):p j=true:=Mj hx _ j h
theorem M0 {g:Gr} (hg:yz g=true) {p:Nat→Bool} {x j:Nat} (hx:x < g.1.toNat) (h:yY g p x j=true):j < g.1.toNat:=LS hg hx _ j h
theorem u7 {g:Gr} (hg:yz g=true) {p:Nat→Bool} {x y j:Nat} (hx:x < g.1.toNat) (hp:p x=true) (hy:yY g p x y=true) (hj:p j=true) (ha:adj g y j=true):yY g p x j=true:=by
 have hcn:=wt (p:=p) (n:=g.1.toNat)
 have:=UJ hg hx hp (s:=g.1.toNat + 1) (by omega) j
 rw [← this]
 exact Ue.2 (.inr ⟨hj,y,M0 hg hx hy,hy,ha⟩)
theorem M6 {g:Gr} {p C:Nat→Bool} {x j:Nat} (hx:C x=true) (hC:∀ y j,C y=true→p j=true→adj g y j=true→C j=true) (h:yY g p x j=true):C j=true:=KU hx hC _ j h
theorem zkd {F x:Nat} {g:Gr} {p:Nat→Bool} (hg:yz g=true) (hx:x < g.1.toNat) (hp:p x=true) (hF:40≤F) (hG:g.2.length < F) (hs:Sm g.2.length) :
    Xv F g (zp p g.1.toNat) (x:Int)=some (zp (yY g p x) g.1.toNat):=by
 have h8:=zT hg
 obtain ⟨n,hn⟩:∃ n:Nat,g.1.toNat=n:=⟨_,rfl⟩
 rw [hn] at hx ⊢
 have hlen:(zp p n).length≤n:=by rw [y9];exact wt
 have hn8:n≤8:=by omega
 have hcl:∀ y j,yY g p x y=true→p j=true→adj g y j=true→yY g p x j=true:=fun y j h1 h2 h3=>u7 hg (by omega) hp h1 h2 h3
 let B:(Nat→Bool)→(Nat→Bool)→Prop:=fun lo q=>(∀ j,lo j=true→q j=true)∧(∀ j,q j=true→yY g p x j=true)
 have hlt8:∀ q lo,B lo q→∀ j,q j=true→j < n:=fun q lo h j hj=>by rw [← hn];exact M0 hg (by omega) (h.2 j hj)
 have H1:∀ (i:Nat) (rnd:Int) (c1 c10:List Int→Int→Option (List Int)) (q:Nat→Bool),i < (zp p n).length→(∀ j,q j=true→yY g p x j=true) →
     ∃ q',(∀ j,q j=true→q' j=true)∧(∀ j,q' j=true→yY g p x j=true)∧(∀ j:Nat,(zp p n).getD i 0=j→(∃ y,y < n∧q y=true∧adj g y j=true)→q' j=true) ∧
      xl F (zp p n) g rnd (i:Int) c1 c10 F (zp q n) 0=c10 (zp q' n) ((i + 1:Nat):Int):=by
  intro i rnd c1 c10 q hi hq
  obtain ⟨z,hz,hzn,hzp⟩:=w7 hi
  have hwi:w64 ((i:Int) + 1)=((i + 1:Nat):Int):=yk hi (by unfold Sm;omega)
  have hql:(zp q n).length≤8:=by rw [y9];exact xz wt hn8
  have hend:∀ (q':Nat→Bool) (k t:Nat),q' z=true→xl F (zp p n) g rnd (i:Int) c1 c10 (k + 1) (zp q' n) (t:Int)=c10 (zp q' n) ((i + 1:Nat):Int):=by
   intro q' k t hz'
   simp only [xl,vV]
   by_cases hlt:(t:Int) < ((zp q' n).length:Int)
   · rw [zt hlt,zl,zY (d:=0) hi,zc,hz,Kt hn8 hzn (by omega),zc,hz',y0,zi,hwi]
   · rw [zL hlt,zi,zi,hwi]
  by_cases hzq:q z=true
  · obtain ⟨F',rfl⟩:∃ F',F=F' + 1:=⟨F - 1,by omega⟩
    exact ⟨q,fun _ h=>h,hq,fun j hj _=>(by (have e:z=j:=(by omega));subst e;exact hzq),hend q F' 0 hzq⟩
  · rw [Wv] at hzq
    by_cases hex:∃ y,y < n∧q y=true∧adj g y z=true
    · -- the loop comes to the first neighbor
      refine ⟨fun j=>q j || j == z,fun j h=>by simp [h],?_,fun j hj _=>(by (have e:z=j:=(by omega));subst e;simp),?_⟩
      · intro j hj
        simp only [yH,yO] at hj
        rcases hj with hj | rfl
        · exact hq j hj
        · obtain ⟨y,_,h1,h2⟩:=hex
          exact hcl y j (hq y h1) hzp h2
      · have key:∀ d k t,t + d=(zp q n).length→d < k→(∃ t',t≤t'∧t' < (zp q n).length∧adj g ((zp q n).getD t' 0).toNat z=true) →
            xl F (zp p n) g rnd (i:Int) c1 c10 k (zp q n) (t:Int)=c10 (zp (fun j=>q j || j == z) n) ((i + 1:Nat):Int):=by
         intro d
         induction d with
         | zero=>intro k t ht _ ⟨t',h1,h2,_⟩;omega
         | succ d ih=>
           intro k t ht hk ⟨t',h1,h2,h3⟩
           obtain ⟨k,rfl⟩:∃ k',k=k' + 1:=⟨k - 1,by omega⟩
           obtain ⟨k,rfl⟩:∃ k',k=k' + 1:=⟨k - 1,by omega⟩
           have htl:t < (zp q n).length:=by omega
           obtain ⟨y,hy,hyn,hyq⟩:=w7 htl
           rw [xl]
           simp only [vV]
           rw [zt (show (t:Int) < ((zp q n).length:Int) by omega),zl,zY (d:=0) hi,zc,hz,Kt hn8 hzn (by omega),zc,hzq,uD,zl,
            zY (d:=0) htl,zc,zc,hy,zbd hG hs,zc]
           have hwt:w64 ((t:Int) + 1)=((t + 1:Nat):Int):=yk htl (by unfold Sm;omega)
           cases ha:adj g y z with
           | true=>
             rw [zl,zc,zkK hn8 hzn (by omega),zc]
             simp only [Zn]
             rw [hwt]
             exact hend _ k (t + 1) (by simp)
           | false=>
             rw [zi]
             simp only [Zn]
             rw [hwt]
             refine ih (k + 1) (t + 1) (by omega) (by omega) ⟨t',?_,h2,h3⟩
             by_cases e:t=t'
             · subst e;rw [hy,z5,ha] at h3;cases h3
             · omega
        refine key (zp q n).length F 0 (by omega) (by omega) ?_
        obtain ⟨y,hy1,hy2,hy3⟩:=hex
        have hm:(y:Int)∈zp q n:=xr.2 ⟨y,rfl,hy1,hy2⟩
        obtain ⟨t',ht',e⟩:=wT.1 hm
        exact ⟨t',Nat.zero_le _,ht',by rw [zC,zX ht',yV,e,z5];exact hy3⟩
    · -- no neighbor: nothing happens
      refine ⟨q,fun _ h=>h,hq,fun j hj hy=>?_,?_⟩
      · obtain rfl:z=j:=by omega
        exact absurd hy hex
      · refine wU (L:=fun k t s=>xl F (zp p n) g rnd (i:Int) c1 c10 k s t) (n:=(zp q n).length) (fun _ s=>s=zp q n) ?_ ?_ F _ (by omega) rfl
        · intro k t s ht hI
          subst hI
          refine ⟨_,rfl,?_⟩
          obtain ⟨y,hy,hyn,hyq⟩:=w7 ht
          have ha:adj g y z=false:=by
           rw [Bool.eq_false_iff];intro h;exact hex ⟨y,hyn,hyq,h⟩
          simp only [xl,vV,Zn]
          rw [zt (show (t:Int) < ((zp q n).length:Int) by omega),zl,zY (d:=0) hi,zc,hz,Kt hn8 hzn (by omega),zc,hzq,uD,zl,
           zY (d:=0) ht,zc,zc,hy,zbd hG hs,zc,ha,zi,yk ht (by unfold Sm;omega)]
        · intro k s hI
          subst hI
          simp only [xl,vV]
          rw [zL (show ¬ ((zp q n).length:Int) < ((zp q n).length:Int) by omega),zi,zi,hwi]
 have H2:∀ (r:Nat) (c1:List Int→Int→Option (List Int)) (q:Nat→Bool),r < (zp p n).length→B (rch g p x r) q→∃ q',B (rch g p x (r + 1)) q'∧wM F (zp p n) g (r:Int) c1 F (zp q n) 0=c1 (zp q' n) ((r + 1:Nat):Int):=by
  intro r c1 q hr hB
  obtain ⟨s,⟨q',hs1,hs2,hs3,hs4⟩,h2⟩:=U2 (L:=fun k i s=>wM F (zp p n) g (r:Int) c1 k s i) (n:=(zp p n).length)
   (fun i s=>∃ q':Nat→Bool,s=zp q' n∧(∀ j,q j=true→q' j=true)∧(∀ j,q' j=true→yY g p x j=true)∧∀ i',i' < i→∀ j:Nat,(zp p n).getD i' 0=j→(∃ y,y < n∧q y=true∧adj g y j=true)→q' j=true)
   (fin:=fun s=>c1 s ((r + 1:Nat):Int)) (fun k i s hi ⟨q1,hq1,hq2,hq3,hq4⟩=>by
     subst hq1
     obtain ⟨q2,h1,h2,h3,h4⟩:=H1 i (r:Int) c1 (wM F (zp p n) g (r:Int) c1 k) q1 hi hq3
     refine ⟨_,⟨q2,rfl,fun j h=>h1 j (hq2 j h),h2,?_⟩,?_⟩
     · intro i' hi' j hj ⟨y,hy1,hy2,hy3⟩
       by_cases e:i'=i
       · subst e;exact h3 j hj ⟨y,hy1,hq2 y hy2,hy3⟩
       · exact h1 j (hq4 i' (by omega) j hj ⟨y,hy1,hy2,hy3⟩)
     · simp only [wM]
       rw [zt (show (i:Int) < ((zp p n).length:Int) by omega),zl,h4]) (fun k s _=>by
     simp only [wM]
     rw [zL (show ¬ ((zp p n).length:Int) < ((zp p n).length:Int) by omega),zi,yk hr (by unfold Sm;omega)]) F _ (by omega) ⟨q,rfl,fun _ h=>h,hB.2,fun i' hi'=>by omega⟩
  subst hs1
  refine ⟨q',⟨fun j hj=>?_,hs3⟩,h2⟩
  rcases Ue.1 (show stp g p (rch g p x r) j=true from hj) with h | ⟨h1,y,hy,h2,h3⟩
  · exact hs2 j (hB.1 j h)
  · have hjn:j < n:=by rw [← hn];exact LS hg (by omega) (r + 1) j hj
    have hm:(j:Int)∈zp p n:=xr.2 ⟨j,rfl,hjn,h1⟩
    obtain ⟨i',hi',e⟩:=wT.1 hm
    refine hs4 i' hi' j ?_ ⟨y,by omega,hB.1 y h2,h3⟩
    rw [zC,zX hi',yV,e]
 obtain ⟨s,⟨q,hq1,hq2⟩,h2⟩:=U2 (L:=fun k i s=>vq F (zp p n) g k s i) (n:=(zp p n).length) (fun i s=>∃ q,s=zp q n∧B (rch g p x i) q) (fin:=fun s=>some s) (fun k i s hi ⟨q,hq1,hq2⟩=>by
     subst hq1
     obtain ⟨q',h1,h2⟩:=H2 i (vq F (zp p n) g k) q hi hq2
     refine ⟨_,⟨q',rfl,h1⟩,?_⟩
     simp only [vq]
     rw [zt (show (i:Int) < ((zp p n).length:Int) by omega),zl,h2]) (fun k s _=>by
     simp only [vq]
     rw [zL (show ¬ ((zp p n).length:Int) < ((zp p n).length:Int) by omega),zi]) F [(x:Int)] (by omega) ⟨fun j=>j == x,by
      refine Lz (by simp [Srt]) fun y=>?_
      simp only [wC,yO]
      constructor
      · rintro rfl;exact ⟨x,rfl,by omega,rfl⟩
      · rintro ⟨j,rfl,_,rfl⟩;rfl,fun j h=>h,fun j h=>by
      have:j=x:=by simpa using h
      subst this;exact vB⟩
 subst hq1
 unfold Xv
 rw [h2]
 congr 1
 apply wS
 intro j _
 rw [yo]
 refine ⟨hq2.2 j,fun h=>hq2.1 j ?_⟩
 rw [UJ hg (by omega) hp (by rw [y9,hn];omega) j]
 exact h
def ZH (p:Nat→Bool):Nat→Option Nat
 | 0=>none
 | n + 1=>match ZH p n with
   | some x=>some x
   | none=>if p n then some n else none
theorem vm {p:Nat→Bool}:∀ {n:Nat},ZH p n=none↔∀ j,j < n→p j=false
 | 0=>by simp [ZH]
 | n + 1=>by
   have ih:=vm (p:=p) (n:=n)
   simp only [ZH]
   cases h:ZH p n with
   | some x=>
     simp only [reduceCtorEq,false_iff]
     intro hj
     have:=ih.2 (fun j hj'=>hj j (by omega))
     rw [h] at this;cases this
   | none=>
     simp only
     have h1:=ih.1 h
     by_cases hp:p n=true
     · rw [if_pos hp]
       simp only [reduceCtorEq,false_iff]
       intro hj;have:=hj n (by omega);rw [hp] at this;cases this
     · rw [if_neg hp]
       simp only [true_iff]
       intro j hj
       by_cases e:j=n
       · subst e;simpa using hp
       · exact h1 j (by omega)
theorem ub {p:Nat→Bool} {x:Nat}:∀ {n:Nat},ZH p n=some x→x < n∧p x=true∧∀ j,j < x→p j=false
 | 0,h=>by simp [ZH] at h
 | n + 1,h=>by
   simp only [ZH] at h
   cases h1:ZH p n with
   | some y=>
     rw [h1] at h
     simp only [zg] at h
     subst h
     have:=ub h1
     exact ⟨by omega,this.2⟩
   | none=>
     rw [h1] at h
     simp only at h
     split at h
     · rename_i hp
       simp only [zg] at h
       subst h
       exact ⟨by omega,hp,vm.1 h1⟩
     · cases h
def prt (g:Gr):Nat→(Nat→Bool)→List Nat
 | 0,_=>[]
 | d + 1,p=>match ZH p g.1.toNat with
   | none=>[]
   | some x=>mkm (yY g p x) g.1.toNat :: prt g d (fun j=>p j && !yY g p x j)
theorem zlP:∀ m:Nat,m < 256→m≠0→((List.range 8).any fun x=>(yx .i64 (m:Int) (w64 (0 - (m:Int))) == ((2 ^ x:Nat):Int)) && (m.testBit x && (List.range x).all fun j=>!m.testBit j))=true:=by decide +kernel
theorem zoC {n x:Nat} {p:Nat→Bool} (hn:n≤8) (h:ZH p n=some x):yx .i64 ((mkm p n:Nat):Int) (w64 (0 - ((mkm p n:Nat):Int)))=((2 ^ x:Nat):Int):=by
 obtain ⟨h1,h2,h3⟩:=ub h
 have hm:(mkm p n).testBit x=true:=by rw [yj,h2];simp [h1]
 have hne:mkm p n≠0:=by intro e;rw [e,wF] at hm;cases hm
 have:=zlP (mkm p n) (Lp hn) hne
 rw [YR] at this
 obtain ⟨y,hy,hh⟩:=this
 simp only [zk,yO,yB,vP] at hh
 obtain ⟨e1,e2,e3⟩:=hh
 have:y=x:=by
  rcases Nat.lt_trichotomy y x with hl | hl | hl
  · have:=h3 y hl
    rw [yj,this] at e2;simp at e2
  · exact hl
  · have:=e3 x hl
    rw [hm] at this;cases this
 rw [e1,this]
theorem Xa {p:Nat→Bool} {n:Nat}:mkm p n=0↔ZH p n=none:=by
 rw [vm]
 constructor
 · intro h j hj
   have:=yj (p:=p) n j
   rw [h,wF] at this
   simpa [hj] using this.symm
 · intro h
   apply ZX;intro j
   rw [yj,wF]
   by_cases hj:j < n
   · simp [h j hj]
   · simp [hj]
theorem zfW {p q:Nat→Bool} {n:Nat} (h:mkm p n=mkm q n):∀ j,j < n→p j=q j:=by
 intro j hj
 have h1:=yj (p:=p) n j
 have h2:=yj (p:=q) n j
 rw [h,h2] at h1
 simpa [hj] using h1.symm
theorem Nk {g:Gr} {p:Nat→Bool} {x d:Nat} (hx:x < g.1.toNat) (hp:p x=true) (hd:y8 p g.1.toNat≤d + 1):y8 (fun j=>p j && !yY g p x j) g.1.toNat≤d:=by
 have:=Uq (p:=fun j=>p j && !yY g p x j) (q:=p) (n:=g.1.toNat) (fun j _ h=>by simp only [zk] at h;exact h.1) ⟨x,hx,by simp [vB],hp⟩
 omega
theorem zhD {F:Nat} {g:Gr} (hg:yz g=true) (hF:40≤F):∀ (d k:Nat) (p:Nat→Bool) (ps:NL Int),y8 p g.1.toNat≤d→d < k→ps.list.length + d≤100 →
    xW F ⟨yF g⟩ k ((mkm p g.1.toNat:Nat):Int) ps=some (ps.list++(prt g d p).map fun (m:Nat)=>(m:Int)):=by
 have h8:=zT hg
 obtain ⟨n,hn⟩:∃ n:Nat,g.1.toNat=n:=⟨_,rfl⟩
 have hn8:n≤8:=by omega
 intro d
 induction d with
 | zero=>
   intro k p ps hc hk _
   obtain ⟨k,rfl⟩:∃ k',k=k' + 1:=⟨k - 1,by omega⟩
   have:mkm p g.1.toNat=0:=by
    rw [Xa,vm]
    intro j hj
    cases h:p j with
    | false=>rfl
    | true=>
      have:=Uq (p:=fun _=>false) (q:=p) (n:=g.1.toNat) (by simp) ⟨j,hj,rfl,h⟩
      omega
   rw [this]
   simp [xW,prt]
 | succ d ih=>
   intro k p ps hc hk hps
   obtain ⟨k,rfl⟩:∃ k',k=k' + 1:=⟨k - 1,by omega⟩
   rw [xW]
   cases hf:ZH p g.1.toNat with
   | none=>
     rw [Xa.2 hf]
     simp [prt,hf]
   | some x=>
     obtain ⟨hx,hp,hmin⟩:=ub hf
     have hne:(((mkm p g.1.toNat:Nat):Int) != 0)=true:=by
      rw [bne_iff_ne];intro h
      have:mkm p g.1.toNat=0:=by omega
      rw [Xa,hf] at this;cases this
     rw [hne,zl,zoC (by omega) hf]
     have h0:((2 ^ x:Nat):Int)=((mkm (rch g p x 0) g.1.toNat:Nat):Int):=by
      congr 1
      refine uK fun j=>?_
      rw [uF]
      show decide (x=j)=(decide (j < g.1.toNat) && (j == x))
      rw [yo];simp;omega
     rw [h0]
     have key:∀ e k2 t,t + e=g.1.toNat + 1→e < k2→vD F ((mkm p g.1.toNat:Nat):Int) ⟨yF g⟩ ps (xW F ⟨yF g⟩ k) k2 ((mkm (rch g p x t) g.1.toNat:Nat):Int) =
         xW F ⟨yF g⟩ k ((mkm (fun j=>p j && !yY g p x j) g.1.toNat:Nat):Int) (.of (ps.list++[((mkm (yY g p x) g.1.toNat:Nat):Int)])):=by
      intro e
      induction e with
      | zero=>
        intro k2 t ht hk2
        obtain ⟨k2,rfl⟩:∃ k',k2=k' + 1:=⟨k2 - 1,by omega⟩
        have hcn:=wt (p:=p) (n:=g.1.toNat)
        have e1:=UJ hg hx hp (s:=t) (by omega)
        have e2:=UJ hg hx hp (s:=t + 1) (by omega)
        have hst:mkm (stp g p (rch g p x t)) g.1.toNat=mkm (rch g p x t) g.1.toNat:=Zy fun j _=>by
         show rch g p x (t + 1) j=rch g p x t j
         rw [e1 j,e2 j]
        rw [vD,Kr hg (by omega),zc,JO (xU (by omega)) (xU (by omega))]
        have hand:mkm (J5 g (rch g p x t)) g.1.toNat &&& mkm p g.1.toNat=mkm (stp g p (rch g p x t)) g.1.toNat:=by
         refine uK fun j=>?_
         rw [Nat.testBit_and,yj,yj]
         unfold J5 stp
         have:=Mj (g:=g) hp t j
         cases hr:rch g p x t j with
         | true=>rw [this hr];cases decide (j < g.1.toNat) <;> simp
         | false=>cases decide (j < g.1.toNat) <;> cases p j <;> simp
        rw [hand,hst]
        simp only [Y6,zl]
        rw [XS (by omega),zc]
        obtain ⟨m,hm1,hm2,hm3⟩:=ud (a:=mkm p g.1.toNat) (b:=mkm (rch g p x t) g.1.toNat) (xU (by omega)) (xU (by omega))
        have hmm:m=mkm (fun j=>p j && !yY g p x j) g.1.toNat:=by
         refine uK fun j=>?_
         rw [hm3,yj,yj,e1 j]
         cases decide (j < g.1.toNat) <;> simp
        rw [hm1,hmm,Zy (p:=rch g p x t) (q:=yY g p x) (fun j _=>e1 j)]
      | succ e ihe=>
        intro k2 t ht hk2
        obtain ⟨k2,rfl⟩:∃ k',k2=k' + 1:=⟨k2 - 1,by omega⟩
        rw [vD,Kr hg (by omega),zc,JO (xU (by omega)) (xU (by omega))]
        have hand:mkm (J5 g (rch g p x t)) g.1.toNat &&& mkm p g.1.toNat=mkm (stp g p (rch g p x t)) g.1.toNat:=by
         refine uK fun j=>?_
         rw [Nat.testBit_and,yj,yj]
         unfold J5 stp
         have:=Mj (g:=g) hp t j
         cases hr:rch g p x t j with
         | true=>rw [this hr];cases decide (j < g.1.toNat) <;> simp
         | false=>cases decide (j < g.1.toNat) <;> cases p j <;> simp
        rw [hand]
        by_cases hst:mkm (stp g p (rch g p x t)) g.1.toNat=mkm (rch g p x t) g.1.toNat
        · have e1:∀ j,rch g p x t j=yY g p x j:=by
           have hst2:∀ j,rch g p x (t + 1) j=true→rch g p x t j=true:=by
            intro j hj
            rw [← zfW hst j (LS hg hx _ j hj)];exact hj
           intro j
           rw [yo]
           constructor
           · intro h
             by_cases hts:t≤g.1.toNat
             · exact X1 h _ hts
             · have:=UJ hg hx hp (s:=t) (by have:=wt (p:=p) (n:=g.1.toNat);omega) j
               rw [← this];exact h
           · intro h
             by_cases hts:t≤g.1.toNat
             · have hh:rch g p x (t + (g.1.toNat - t)) j=true:=by rw [show t + (g.1.toNat - t)=g.1.toNat by omega];exact h
               exact JR hst2 _ j hh
             · exact X1 h _ (by omega)
          rw [hst]
          simp only [Y6,zl]
          rw [XS (by omega),zc]
          obtain ⟨m,hm1,hm2,hm3⟩:=ud (a:=mkm p g.1.toNat) (b:=mkm (rch g p x t) g.1.toNat) (xU (by omega)) (xU (by omega))
          have hmm:m=mkm (fun j=>p j && !yY g p x j) g.1.toNat:=by
           refine uK fun j=>?_
           rw [hm3,yj,yj,e1 j]
           cases decide (j < g.1.toNat) <;> simp
          rw [hm1,hmm,Zy (p:=rch g p x t) (q:=yY g p x) (fun j _=>e1 j)]
        · have hb:(((mkm (stp g p (rch g p x t)) g.1.toNat:Nat):Int) == ((mkm (rch g p x t) g.1.toNat:Nat):Int))=false:=by
           rw [beq_eq_false_iff_ne];intro h;exact hst (by exact_mod_cast h)
          rw [hb,zi]
          exact ihe k2 (t + 1) (by omega) (by omega)
     rw [key (g.1.toNat + 1) F 0 (by omega) (by omega),ih k _ _ (Nk hx hp hc) (by omega) (by show (ps.list++[_]).length + d≤100;simp;omega)]
     simp only [prt,hf,NL.list]
     simp
theorem zdn {F:Nat} {g:Gr} {p:Nat→Bool} (hg:yz g=true) (hF:40≤F):Zb F ⟨yF g⟩ ((mkm p g.1.toNat:Nat):Int)=some ((prt g g.1.toNat p).map fun (m:Nat)=>(m:Int)):=by
 have h8:=zT hg
 unfold Zb
 rw [zhD hg hF g.1.toNat F p .nil wt (by omega) (by show 0 + g.1.toNat≤100;omega)];rfl
theorem ziW {g:Gr} (hg:yz g=true) {p q:Nat→Bool} {x:Nat} (hx:x < g.1.toNat) (hq:q x=true) (hsub:∀ j,q j=true→p j=true) (hcl:∀ y j,q y=true→p j=true→adj g y j=true→q j=true):∀ j,yY g p x j=yY g q x j:=by
 intro j
 rw [yo]
 constructor
 · intro h
   have:(yY g q x j && q j)=true:=M6 (C:=fun j=>yY g q x j && q j) (p:=p) (by simp [vB,hq]) (fun y j hy hj ha=>by
    simp only [zk] at hy ⊢
    have:=hcl y j hy.2 hj ha
    exact ⟨u7 hg hx hq hy.1 this ha,this⟩) h
   simp only [zk] at this
   exact this.1
 · intro h
   exact M6 (C:=yY g p x) (p:=q) vB (fun y j hy hj ha=>u7 hg hx (hsub x hq) hy (hsub j hj) ha) h
theorem UU {F:Nat} {g:Gr} {p:Nat→Bool} (hg:yz g=true) (hF:60≤F) (hG:g.2.length < F) (hs:Sm g.2.length) :
    uI F g (zp p g.1.toNat)=some ((prt g g.1.toNat p).map fun (m:Nat)=>zp m.testBit g.1.toNat):=by
 have h8:=zT hg
 obtain ⟨n,hn⟩:∃ n:Nat,g.1.toNat=n:=⟨_,rfl⟩
 have hn8:n≤8:=by omega
 have hlen:(zp p n).length≤n:=by rw [y9];exact wt
 unfold uI
 rw [hn]
 let J:Nat→List (List Int)×List Int→Prop:=fun i s=>∃ (q:Nat→Bool) (d:Nat),s.2=zp (fun j=>p j && !q j) n∧y8 q n≤d∧d≤n∧(∀ j,q j=true→p j=true)∧(∀ y j,q y=true→p j=true→adj g y j=true→q j=true) ∧
  (∀ j,q j=true→(j:Int)∉(zp p n).take i)∧s.1.length + d≤20∧s.1++(prt g d q).map (fun (m:Nat)=>zp m.testBit n)=(prt g n p).map fun (m:Nat)=>zp m.testBit n
 refine wU (L:=fun k i (s:List (List Int)×List Int)=>xY F (zp p n) g k s.1 s.2 i) (n:=(zp p n).length) J ?_ ?_ F ([],[]) (by omega) ?_
 · rintro k i ⟨out,seen⟩ hi ⟨q,d,hseen,hcq,hdn,hsub,hcl,htake,hol,htot⟩
   simp only at hseen htot hol
   subst hseen
   obtain ⟨x,hx,hxn,hxp⟩:=w7 hi
   have hwi:w64 ((i:Int) + 1)=((i + 1:Nat):Int):=yk hi (by unfold Sm;omega)
   have hnext:∀ q':Nat→Bool,(∀ j,q' j=true→q j=true)→q' x=false→∀ j,q' j=true→(j:Int)∉(zp p n).take (i + 1):=by
    intro q' hq' hqx j hj hm
    rw [List.take_add_one,zX hi] at hm
    simp only [Option.toList_some,zN,wC] at hm
    rcases hm with hm | hm
    · exact htake j (hq' j hj) hm
    · have e:(zp p n)[i]=(x:Int):=by rw [← hx,zC,zX hi];rfl
      rw [e] at hm
      have:j=x:=by omega
      subst this;rw [hqx] at hj;cases hj
   simp only [xY]
   rw [zt (show (i:Int) < ((zp p n).length:Int) by omega),zl,zY (d:=0) hi,zc,hx,Kt hn8 hxn (by omega),zc,hxp,z7]
   cases hqx:q x with
   | false=>
     rw [uD,zl,hwi]
     exact ⟨(out,zp (fun j=>p j && !q j) n),⟨q,d,rfl,hcq,hdn,hsub,hcl,hnext q (fun _ h=>h) hqx,hol,htot⟩,rfl⟩
   | true=>
     rw [y0,zi,zc]
     have hr:=zkd (F:=F) hg (x:=x) (p:=p) (by omega) hxp (by omega) hG hs
     rw [hn] at hr
     rw [hr,zc]
     have hcs:=ziW hg (p:=p) (q:=q) (x:=x) (by omega) hqx hsub hcl
     have hfst:ZH q n=some x:=by
      cases hf:ZH q n with
      | none=>have:=vm.1 hf x hxn;rw [hqx] at this;cases this
      | some y=>
        obtain ⟨y1,y2,y3⟩:=ub hf
        have hyx:y≤x:=by
         rcases w3 x y with h | h
         · have:=y3 x h;rw [hqx] at this;cases this
         · exact h
        have:y=x:=by
         rcases Nat.lt_or_eq_of_le hyx with h | h
         · exfalso
           apply htake y y2
           have hm:(y:Int)∈zp p n:=xr.2 ⟨y,rfl,y1,hsub y y2⟩
           obtain ⟨t,ht,e⟩:=wT.1 hm
           have hti:t < i:=by
            rcases w3 t i with h' | h'
            · exact h'
            · exfalso
              have h1:(zp p n).getD t 0=(y:Int):=by rw [zC,zX ht,yV,e]
              by_cases e2:t=i
              · subst e2;omega
              · have:=zjz (Kl (p:=p) (n:=n)) (i:=i) (j:=t) (by omega) ht
                omega
           rw [List.mem_take_iff_getElem]
           exact ⟨t,by omega,e⟩
         · exact h
        rw [this]
     obtain ⟨d,rfl⟩:∃ d',d=d' + 1:=by
      refine ⟨d - 1,?_⟩
      have:=Uq (p:=fun _=>false) (q:=q) (n:=n) (by simp) ⟨x,hxn,rfl,hqx⟩
      omega
     have hcl8:(zp (yY g p x) n).length≤8:=by rw [y9];exact xz wt hn8
     have hin:uf F (zp p n) g out (i:Int) (zp (yY g p x) n) (xY F (zp p n) g k) F (zp (fun j=>p j && !q j) n) 0 =
         xY F (zp p n) g k (out++[zp (yY g p x) n]) (zp (fun j=>p j && !(q j && !yY g p x j)) n) ((i + 1:Nat):Int):=by
      refine wU (L:=fun k2 t s=>uf F (zp p n) g out (i:Int) (zp (yY g p x) n) (xY F (zp p n) g k) k2 s t) (n:=(zp (yY g p x) n).length)
       (fun t s=>s=zp (fun j=>(p j && !q j) || decide ((j:Int)∈(zp (yY g p x) n).take t)) n) ?_ ?_ F _ (by omega) ?_
      · intro k2 t s ht hI
        subst hI
        refine ⟨_,rfl,?_⟩
        obtain ⟨y,hy,hyn,_⟩:=w7 ht
        simp only [uf]
        rw [zt (show (t:Int) < ((zp (yY g p x) n).length:Int) by omega),zl,zY (d:=0) ht,zc,hy,zkK hn8 hyn (by omega),zc,yk ht (by unfold Sm;omega)]
        congr 1
        apply wS
        intro j _
        have hp2:=NQ (x:=y) ht hy j
        unfold Yo at hp2
        rw [hp2,Bool.or_assoc]
      · intro k2 s hI
        subst hI
        simp only [uf]
        rw [zL (show ¬ ((zp (yY g p x) n).length:Int) < ((zp (yY g p x) n).length:Int) by omega),zi,XS (by omega),zc,hwi]
        congr 1
        apply wS
        intro j hj
        rw [List.take_length,yo]
        simp only [yH,zk,yN,Bool.and_eq_false_iff,z8,xr,Bool.not_eq_false']
        constructor
        · rintro (⟨a,b⟩ | ⟨j',e,_,a⟩)
          · exact ⟨a,.inl b⟩
          · obtain rfl:j=j':=by omega
            exact ⟨Xd hxp a,.inr a⟩
        · rintro ⟨a,b | b⟩
          · exact .inl ⟨a,b⟩
          · exact .inr ⟨j,rfl,hj,b⟩
      · apply wS;intro j _;simp
     rw [hin]
     refine ⟨(out++[zp (yY g p x) n],zp (fun j=>p j && !(q j && !yY g p x j)) n),⟨fun j=>q j && !yY g p x j,d,rfl,?_,by omega,?_,?_,?_,?_,?_⟩,rfl⟩
     · have hc2:=Nk (g:=g) (p:=q) (x:=x) (d:=d) (by omega) hqx (by rw [hn];exact hcq)
       rw [hn] at hc2
       rw [XF (q:=fun j=>q j && !yY g q x j) (fun j _=>by rw [hcs j])]
       exact hc2
     · intro j hj
       simp only [zk] at hj
       exact hsub j hj.1
     · intro y j hy hj ha
       simp only [zk,yN] at hy ⊢
       refine ⟨hcl y j hy.1 hj ha,?_⟩
       cases hc:yY g p x j with
       | false=>rfl
       | true=>
         have:=u7 hg (p:=p) (x:=x) (y:=j) (j:=y) (by omega) hxp hc (hsub y hy.1) (by rw [JS];exact ha)
         rw [this] at hy;cases hy.2
     · exact hnext _ (fun j h=>by simp only [zk] at h;exact h.1) (by simp [vB])
     · show (out++[_]).length + d≤20
       simp;omega
     · rw [← htot]
       show (out++[_])++_=_
       rw [prt,hn,hfst]
       simp only [List.map_cons]
       have e1:(fun j=>q j && !yY g q x j)=(fun j=>q j && !yY g p x j):=by funext j;rw [hcs j]
       rw [e1]
       have e2:zp (mkm (yY g q x) n).testBit n=zp (yY g p x) n:=by
        apply wS
        intro j hj
        rw [yj,hcs j];simp [hj]
       rw [e2]
       simp
 · rintro k ⟨out,seen⟩ ⟨q,d,hseen,hcq,hdn,hsub,hcl,htake,hol,htot⟩
   simp only at hseen htot
   simp only [xY]
   rw [zL (show ¬ ((zp p n).length:Int) < ((zp p n).length:Int) by omega),zi]
   have hq0:ZH q n=none:=by
    rw [vm]
    intro j hj
    cases h:q j with
    | false=>rfl
    | true=>
      exfalso
      apply htake j h
      rw [List.take_length]
      exact xr.2 ⟨j,rfl,hj,hsub j h⟩
   have:prt g d q=[]:=by
    cases d with
    | zero=>rfl
    | succ d=>rw [prt,hn,hq0]
   rw [this] at htot
   rw [← htot];simp
 · refine ⟨p,n,?_,wt,yP _,fun _ h=>h,fun _ _ _ h _=>h,by simp,by show 0 + n≤20;omega,rfl⟩
   show ([]:List Int)=_
   rw [wS (q:=fun _=>false) (fun j _=>by simp)]
   simp [zp]
theorem vQ {n m:Nat} (h:m < 2 ^ n):mkm m.testBit n=m:=by
 symm
 refine uK fun j=>?_
 by_cases hj:j < n
 · simp [hj]
 · rw [Nat.testBit_lt_two_pow (xy h (xw (by decide) (by omega)))]
   simp [hj]
theorem XL {g:Gr} (hg:yz g=true):∀ (d:Nat) (p:Nat→Bool) (m:Nat),m∈prt g d p→m < 2 ^ g.1.toNat∧∀ j,m.testBit j=true→p j=true
 | 0,p,m,h=>by simp [prt] at h
 | d + 1,p,m,h=>by
   rw [prt] at h
   cases hf:ZH p g.1.toNat with
   | none=>rw [hf] at h;simp at h
   | some x=>
     rw [hf] at h
     obtain ⟨h1,h2,h3⟩:=ub hf
     rcases z2.1 h with rfl | h
     · refine ⟨Xx,fun j hj=>?_⟩
       rw [yj,zk] at hj
       exact Xd h2 hj.2
     · obtain ⟨a,b⟩:=XL hg d _ m h
       refine ⟨a,fun j hj=>?_⟩
       have:=b j hj
       simp only [zk] at this
       exact this.1
theorem zmh {a b:Nat} (h:∀ j,a.testBit j=true→b.testBit j=true):a≤b:=by
 have:a &&& b=a:=by
  apply ZX;intro j
  rw [Nat.testBit_and]
  cases ha:a.testBit j with
  | true=>rw [h j ha];rfl
  | false=>rfl
 rw [← this];exact Nat.and_le_right
theorem zf4 {a b j:Nat} (h:∀ j,a.testBit j=true→b.testBit j=true) (hb:b.testBit j=true) (ha:a.testBit j=false):a < b:=by
 have:=zmh h
 have:a≠b:=fun e=>by rw [e,hb] at ha;cases ha
 omega
theorem N6 {g:Gr} (hg:yz g=true) {c:Nat} (hc:c < 2 ^ g.1.toNat) (hl:1 < (prt g g.1.toNat c.testBit).length):∀ m∈prt g g.1.toNat c.testBit,m < c:=by
 have hsub:=fun m hm=>XL hg g.1.toNat c.testBit m hm
 intro m hm
 obtain ⟨d,hd⟩:∃ d,g.1.toNat=d + 1:=by
  cases h:g.1.toNat with
  | zero=>rw [h] at hl;simp [prt] at hl
  | succ d=>exact ⟨d,rfl⟩
 have hp:prt g g.1.toNat c.testBit=prt g (d + 1) c.testBit:=by rw [hd]
 rw [hp] at hm hl
 rw [prt] at hm hl
 cases hf:ZH c.testBit g.1.toNat with
 | none=>rw [hf] at hm;simp at hm
 | some x=>
   rw [hf] at hm hl
   obtain ⟨h1,h2,h3⟩:=ub hf
   rcases z2.1 hm with rfl | hm
   · -- the first one: another one is left
     simp only [Yk] at hl
     have hne:prt g d (fun j=>c.testBit j && !yY g c.testBit x j)≠[]:=by
      intro e;rw [e] at hl;simp at hl
     obtain ⟨m2,hm2⟩:=List.exists_mem_of_ne_nil _ hne
     have hx2:∃ y,c.testBit y=true∧yY g c.testBit x y=false:=by
      cases d with
      | zero=>simp [prt] at hm2
      | succ d=>
        rw [prt] at hm2
        cases hf2:ZH (fun j=>c.testBit j && !yY g c.testBit x j) g.1.toNat with
        | none=>rw [hf2] at hm2;simp at hm2
        | some y=>
          obtain ⟨_,e2,_⟩:=ub hf2
          simp only [zk,yN] at e2
          exact ⟨y,e2⟩
     obtain ⟨y,y1,y2⟩:=hx2
     refine zf4 (j:=y) (fun j hj=>?_) y1 ?_
     · rw [yj,zk] at hj;exact Xd h2 hj.2
     · rw [yj,y2,Bool.and_false]
   · obtain ⟨a,b⟩:=XL hg d _ m hm
     refine zf4 (j:=x) (fun j hj=>?_) h2 ?_
     · have:=b j hj
       simp only [zk] at this
       exact this.1
     · cases h:m.testBit x with
       | false=>rfl
       | true=>
         have:=b x h
         rw [vB] at this
         simp at this
theorem zgF {g:Gr} {c:Nat} (hc:c < 2 ^ g.1.toNat) (h0:c≠0):0 < (prt g g.1.toNat c.testBit).length:=by
 obtain ⟨d,hd⟩:∃ d,g.1.toNat=d + 1:=by
  cases h:g.1.toNat with
  | zero=>rw [h] at hc;simp at hc;exact absurd hc h0
  | succ d=>exact ⟨d,rfl⟩
 have hp:prt g g.1.toNat c.testBit=prt g (d + 1) c.testBit:=by rw [hd]
 rw [hp,prt]
 cases hf:ZH c.testBit g.1.toNat with
 | none=>
   have:=Xa.2 hf
   rw [vQ hc] at this
   exact absurd this h0
 | some x=>simp
theorem Xb:∀ c:Nat,c < 256→∀ y:Nat,y < 8→c.testBit y=true→yW .i64 (c:Int) ((2 ^ y:Nat):Int)=((c - 2 ^ y:Nat):Int)∧UW (c - 2 ^ y) + 1=UW c∧2 ^ y≤c:=by decide +kernel
theorem Wp {n m:Nat} (hn:n≤8) (h:m < 2 ^ n):UW m≤n:=by
 rw [← vQ h,JB hn];exact wt
theorem Q4 {a b:Nat} (h:∀ j,a.testBit j=true→b.testBit j=true):UW a≤UW b:=XV fun j _=>h j
def tdV (g:Gr) (out:List Int) (c:Nat):Int:=
 if 1 < (prt g g.1.toNat c.testBit).length then (prt g g.1.toNat c.testBit).foldl (fun s m=>max s (out.getD m 0)) 0
 else (zp c.testBit g.1.toNat).foldl (fun s y=>min s (1 + out.getD (c - 2 ^ y.toNat) 0)) (g.1.toNat:Int)
def tdT (g:Gr):Nat→List Int
 | 0=>[0]
 | c + 1=>tdT g c++[tdV g (tdT g c) (c + 1)]
theorem Zl {g:Gr}:∀ c,(tdT g c).length=c + 1
 | 0=>rfl
 | c + 1=>by simp [tdT,Zl c]
theorem zcG {g:Gr} {c m:Nat} (hm:m≤c):(tdT g (c + 1)).getD m 0=(tdT g c).getD m 0:=by
 rw [tdT,zC,List.getElem?_append_left (by rw [Zl];omega),← zC]
theorem MQ {g:Gr} {c:Nat}:(tdT g (c + 1)).getD (c + 1) 0=tdV g (tdT g c) (c + 1):=by
 rw [tdT,zC,List.getElem?_append_right (by rw [Zl];omega),Zl];simp
theorem zdZ {α:Type} {f:α→Int} {B:Int}:∀ (l:List α) (s:Int),0≤s→s≤B→(∀ x∈l,f x≤B)→0≤l.foldl (fun s x=>max s (f x)) s∧l.foldl (fun s x=>max s (f x)) s≤B
 | [],s,h0,hB,_=>⟨h0,hB⟩
 | x :: l,s,h0,hB,h=>by
   have hx:=h x (by simp)
   exact zdZ l (max s (f x)) (by omega) (by omega) (fun y hy=>h y (by simp [hy]))
theorem zdo {α:Type} {f:α→Int}:∀ (l:List α) (s:Int),(∀ x∈l,0≤f x)→0≤s→0≤l.foldl (fun s x=>min s (f x)) s∧l.foldl (fun s x=>min s (f x)) s≤s∧∀ x∈l,l.foldl (fun s x=>min s (f x)) s≤f x
 | [],s,_,h0=>⟨h0,ZB _,by simp⟩
 | x :: l,s,h,h0=>by
   have hx:=h x (by simp)
   have ih:=zdo (f:=f) l (min s (f x)) (fun y hy=>h y (by simp [hy])) (by omega)
   refine ⟨ih.1,by have:=ih.2.1;simp only [List.foldl_cons];omega,fun y hy=>?_⟩
   rcases z2.1 hy with rfl | hy
   · have:=ih.2.1;simp only [List.foldl_cons];omega
   · exact ih.2.2 y hy
theorem NZ {g:Gr} (hg:yz g=true):∀ c,c < 2 ^ g.1.toNat→∀ m,m≤c→0≤(tdT g c).getD m 0∧(tdT g c).getD m 0≤UW m
 | 0,_,m,hm=>by
   obtain rfl:m=0:=by omega
   simp [tdT]
 | c + 1,hc,m,hm=>by
   have h8:=zT hg
   have ih:=NZ hg c (by omega)
   have h256:c + 1 < 256:=by
    have:=xw (n:=2) (by decide) (show g.1.toNat≤8 by omega)
    omega
   by_cases e:m=c + 1
   · subst e
     rw [MQ]
     unfold tdV
     split
     · rename_i hl
       refine zdZ _ _ (ZB _) (by omega) fun m hm=>?_
       have hlt:=N6 hg hc hl m hm
       have hs:=(XL hg g.1.toNat (c + 1).testBit m hm).2
       have:=(ih m (by omega)).2
       have:=Q4 hs
       omega
     · have hy:∀ y∈zp (c + 1).testBit g.1.toNat,0≤1 + (tdT g c).getD (c + 1 - 2 ^ y.toNat) 0∧1 + (tdT g c).getD (c + 1 - 2 ^ y.toNat) 0≤UW (c + 1):=by
        intro y hy
        obtain ⟨j,rfl,hj,hb⟩:=xr.1 hy
        rw [z5]
        obtain ⟨_,d2,d3⟩:=Xb (c + 1) h256 j (by omega) hb
        have hp:=yi j
        have:=ih (c + 1 - 2 ^ j) (by omega)
        omega
       have hf:=zdo (f:=fun y:Int=>1 + (tdT g c).getD (c + 1 - 2 ^ y.toNat) 0) (zp (c + 1).testBit g.1.toNat) (g.1.toNat:Int) (fun y h=>(hy y h).1) (by omega)
       refine ⟨hf.1,?_⟩
       cases hl:zp (c + 1).testBit g.1.toNat with
       | nil=>
         exfalso
         have:y8 (c + 1).testBit g.1.toNat=0:=by rw [← y9,hl];rfl
         have hz:mkm (c + 1).testBit g.1.toNat=0:=by
          rw [Xa,vm]
          intro j hj
          cases h:(c + 1).testBit j with
          | false=>rfl
          | true=>
            have:=Uq (p:=fun _=>false) (q:=(c + 1).testBit) (n:=g.1.toNat) (by simp) ⟨j,hj,rfl,h⟩
            omega
         rw [vQ hc] at hz;omega
       | cons y l=>
         have h1:=hf.2.2 y (by rw [hl];simp)
         have h2:=(hy y (by rw [hl];simp)).2
         rw [hl] at h1
         omega
   · rw [zcG (by omega)]
     exact ih m (by omega)
theorem Zi {n:Nat} (h:n≤8):2 ^ n≤256:=xw (n:=2) (by decide) h
theorem zlA {F c:Nat} {g:Gr} {c1:List Int→Int→Option (List Int)} (hg:yz g=true) (hc:c + 1 < 2 ^ g.1.toNat) (hF:300≤F) (hG:g.2.length < F) (hs:Sm g.2.length) :
    xh F g (tdT g c) ((c + 1:Nat):Int) (zp (c + 1).testBit g.1.toNat) ((prt g g.1.toNat (c + 1).testBit).map fun (m:Nat)=>zp m.testBit g.1.toNat) c1 F 0 0=c1 (tdT g (c + 1)) ((c + 1 + 1:Nat):Int):=by
 have h8:=zT hg
 have h256:=Zi (n:=g.1.toNat) (by omega)
 have hok:=NZ hg c (by omega)
 have hpos:=zgF (g:=g) hc (by omega)
 have hj1:wh F g (tdT g c) ((c + 1:Nat):Int) c1 (tdV g (tdT g c) (c + 1))=c1 (tdT g (c + 1)) ((c + 1 + 1:Nat):Int):=by
  unfold wh
  rw [XS (by rw [Zl];omega),zc,xp (by omega) (by omega)]
  rfl
 by_cases hl:1 < (prt g g.1.toNat (c + 1).testBit).length
 · -- several parts
   have hP20:(prt g g.1.toNat (c + 1).testBit).length≤256:=by
    have:∀ d p,(prt g d p).length≤d:=by
     intro d
     induction d with
     | zero=>intro p;simp [prt]
     | succ d ih=>
       intro p;rw [prt]
       cases ZH p g.1.toNat with
       | none=>simp
       | some x=>simp;exact ih _
    have:=this g.1.toNat (c + 1).testBit
    omega
   have htd:tdV g (tdT g c) (c + 1)=(prt g g.1.toNat (c + 1).testBit).foldl (fun s m=>max s ((tdT g c).getD m 0)) 0:=by unfold tdV;rw [if_pos hl]
   generalize hP:prt g g.1.toNat (c + 1).testBit=P at hl htd hP20 hpos
   have hlenP:(P.map fun (m:Nat)=>zp m.testBit g.1.toNat).length=P.length:=by simp
   obtain ⟨s,_,h2,h3⟩:∃ s:Int,True∧xh F g (tdT g c) ((c + 1:Nat):Int) (zp (c + 1).testBit g.1.toNat) (P.map fun (m:Nat)=>zp m.testBit g.1.toNat) c1 F 0 0=wh F g (tdT g c) ((c + 1:Nat):Int) c1 s∧s=(List.range P.length).foldl (fun s i=>max s ((tdT g c).getD (P.getD i 0) 0)) 0:=by
    refine Uw (L:=fun k i s=>xh F g (tdT g c) ((c + 1:Nat):Int) (zp (c + 1).testBit g.1.toNat) (P.map fun (m:Nat)=>zp m.testBit g.1.toNat) c1 k s i) (n:=P.length) (fun _ _=>True)
     (fin:=fun s=>wh F g (tdT g c) ((c + 1:Nat):Int) c1 s) (fun i s=>max s ((tdT g c).getD (P.getD i 0) 0)) ?_ (fun _ _ _ _=>trivial) ?_ F 0 (by omega) trivial
    · intro k i s hi _
      have hm:P.getD i 0∈prt g g.1.toNat (c + 1).testBit:=by rw [hP];exact vo hi
      have hmlt:=N6 hg hc (by rw [hP];exact hl) _ hm
      have hm2:=(XL hg _ _ _ hm).1
      have hget:idx (P.map fun (m:Nat)=>zp m.testBit g.1.toNat) (i:Int)=some (zp (P.getD i 0).testBit g.1.toNat):=by
       rw [zY (d:=[]) (by rw [hlenP];exact hi),zC,Y0,zX hi,zC,zX hi];rfl
      simp only [xh,uj]
      rw [hlenP,zt (show (i:Int) < (P.length:Int) by omega),zl,zt (show (P.length:Int) > 1 by omega),zl,hget,zc,zgg (by omega) (by omega),zc,vQ hm2,
       zY (d:=0) (by rw [Zl];omega),zc,zbq,zc,yk hi (by unfold Sm;omega)]
    · intro k s _
      simp only [xh,uj]
      have hne:((P.length:Int) == 1)=false:=by simp;omega
      rw [hlenP,zL (show ¬ (P.length:Int) < (P.length:Int) by omega),zi,zi,hne,zi]
   have h5:=Kb (h:=fun (s:Int) (m:Nat)=>max s ((tdT g c).getD m 0)) (d:=0) P 0
   rw [h2,h3,h5,← htd];exact hj1
 · -- one part
   have hl1:(prt g g.1.toNat (c + 1).testBit).length=1:=by omega
   have htd:tdV g (tdT g c) (c + 1)=(zp (c + 1).testBit g.1.toNat).foldl (fun s y=>min s (1 + (tdT g c).getD (c + 1 - 2 ^ y.toNat) 0)) (g.1.toNat:Int):=by unfold tdV;rw [if_neg hl]
   obtain ⟨F',hF'⟩:∃ F',F=F' + 1:=⟨F - 1,by omega⟩
   have hopen:xh F g (tdT g c) ((c + 1:Nat):Int) (zp (c + 1).testBit g.1.toNat) ((prt g g.1.toNat (c + 1).testBit).map fun (m:Nat)=>zp m.testBit g.1.toNat) c1 (F' + 1) 0 0 =
       wP F g (tdT g c) ((c + 1:Nat):Int) (zp (c + 1).testBit g.1.toNat) c1 F g.1 0:=by
    simp only [xh,uj,wB,hl1]
    rfl
   have hopen':=hopen
   rw [← hF'] at hopen'
   rw [hopen']
   have hlen8:(zp (c + 1).testBit g.1.toNat).length≤8:=by rw [y9];exact xz wt (by omega)
   obtain ⟨s,_,h2,h3⟩:∃ s:Int,True∧wP F g (tdT g c) ((c + 1:Nat):Int) (zp (c + 1).testBit g.1.toNat) c1 F g.1 0=wh F g (tdT g c) ((c + 1:Nat):Int) c1 s∧s=(List.range (zp (c + 1).testBit g.1.toNat).length).foldl (fun s i=>min s (1 + (tdT g c).getD (c + 1 - 2 ^ ((zp (c + 1).testBit g.1.toNat).getD i 0).toNat) 0)) g.1:=by
    refine Uw (L:=fun k i s=>wP F g (tdT g c) ((c + 1:Nat):Int) (zp (c + 1).testBit g.1.toNat) c1 k s i) (n:=(zp (c + 1).testBit g.1.toNat).length) (fun _ _=>True)
     (fin:=fun s=>wh F g (tdT g c) ((c + 1:Nat):Int) c1 s) (fun i s=>min s (1 + (tdT g c).getD (c + 1 - 2 ^ ((zp (c + 1).testBit g.1.toNat).getD i 0).toNat) 0)) ?_ (fun _ _ _ _=>trivial) ?_ F g.1 (by omega) trivial
    · intro k i s hi _
      obtain ⟨y,hy,hyn,hyb⟩:=w7 hi
      obtain ⟨d1,d2,d3⟩:=Xb (c + 1) (by omega) y (by omega) hyb
      have hp:=yi y
      have hb:=hok (c + 1 - 2 ^ y) (by omega)
      have hpp:=Wp (n:=g.1.toNat) (m:=c + 1 - 2 ^ y) (by omega) (by omega)
      simp only [wP]
      rw [zt (show (i:Int) < ((zp (c + 1).testBit g.1.toNat).length:Int) by omega),zl,zY (d:=0) hi,zc,hy,xB (by omega),zc,z5]
      have hw:w64 (((c + 1:Nat):Int) - ((2 ^ y:Nat):Int))=((c + 1 - 2 ^ y:Nat):Int):=by rw [xp (by omega) (by omega)];omega
      rw [hw,zY (d:=0) (by rw [Zl];omega),zc,xp (x:=1 + (tdT g c).getD (c + 1 - 2 ^ y) 0) (by omega) (by omega),yk hi (by unfold Sm;omega)]
      have hle:uO F s (1 + (tdT g c).getD (c + 1 - 2 ^ y) 0)=some (min s (1 + (tdT g c).getD (c + 1 - 2 ^ y) 0)):=by
       unfold uO
       by_cases h:s < 1 + (tdT g c).getD (c + 1 - 2 ^ y) 0
       · rw [zt h,zl];congr 1;omega
       · rw [zL h,zi];congr 1;omega
      rw [hle,zc]
    · intro k s _
      simp only [wP]
      rw [zL (show ¬ ((zp (c + 1).testBit g.1.toNat).length:Int) < ((zp (c + 1).testBit g.1.toNat).length:Int) by omega),zi]
   have h5:=Kb (h:=fun (s:Int) (y:Int)=>min s (1 + (tdT g c).getD (c + 1 - 2 ^ y.toNat) 0)) (d:=0) (zp (c + 1).testBit g.1.toNat) g.1
   rw [h2,h3,h5]
   have hgn:(g.1.toNat:Int)=g.1:=by omega
   rw [hgn] at htd
   rw [← htd];exact hj1
theorem KK {F:Nat} {g:Gr} (hg:yz g=true) (hF:300≤F) (hG:g.2.length < F) (hs:Sm g.2.length):Zo F g=some (tdT g (2 ^ g.1.toNat - 1)):=by
 have h8:=zT hg
 have h256:=Zi (n:=g.1.toNat) (by omega)
 have hpow:=yi g.1.toNat
 have hgn:(g.1.toNat:Int)=g.1:=by omega
 unfold Zo
 have h1:wk F g F [0] 1=wk F g F (tdT g 0) (0 + 1):=rfl
 rw [h1]
 refine wU (L:=fun k i s=>wk F g k s (i + 1)) (n:=2 ^ g.1.toNat - 1) (fun i s=>s=tdT g i) ?_ ?_ F _ (by omega) rfl
 · intro k i s hi hI
   subst hI
   refine ⟨_,rfl,?_⟩
   simp only [wk]
   have hc:(i:Int) + 1=((i + 1:Nat):Int):=by omega
   have hsh:Xr .i64 1 g.1=some ((2 ^ g.1.toNat:Nat):Int):=by
    have:=xB (j:=g.1.toNat) (by omega)
    rwa [hgn] at this
   rw [hsh,zc,hc,zt (show ((i + 1:Nat):Int) < ((2 ^ g.1.toNat:Nat):Int) by omega),zl]
   have hb:=zhm (F:=F) (n:=g.1.toNat) (code:=i + 1) (by omega) (by omega) (by omega)
   rw [hgn] at hb
   rw [hb,zc,UU hg (by omega) hG hs,zc,zlA hg (by omega) hF hG hs]
   rfl
 · intro k s hI
   subst hI
   simp only [wk]
   have hsh:Xr .i64 1 g.1=some ((2 ^ g.1.toNat:Nat):Int):=by
    have:=xB (j:=g.1.toNat) (by omega)
    rwa [hgn] at this
   rw [hsh,zc,zL (show ¬ ((2 ^ g.1.toNat - 1:Nat):Int) + 1 < ((2 ^ g.1.toNat:Nat):Int) by omega),zi]
theorem znG {F:Nat} {g:Gr} (hG:g.2.length < F) (hF:300≤F) (hs:Sm g.2.length):ut F g=some (bif yz g then ((tdT g (2 ^ g.1.toNat - 1)).getD (2 ^ g.1.toNat - 1) 0,true) else (0,false)):=by
 unfold ut WL
 rw [XG hG hs,zc]
 cases hg:yz g with
 | false=>rfl
 | true=>
   have h8:=zT hg
   have h256:=Zi (n:=g.1.toNat) (by omega)
   have hpow:=yi g.1.toNat
   rw [y0,zi,zl,KK hg hF hG hs,zc,Zl]
   have hw:w64 (((2 ^ g.1.toNat - 1 + 1:Nat):Int) - 1)=((2 ^ g.1.toNat - 1:Nat):Int):=by rw [xp (by omega) (by omega)];omega
   rw [hw,zY (d:=0) (by rw [Zl];omega),zc,zc]
def TdI (g:Gr) (c:Nat) (ds:List Int):Prop:=ds.length=2 ^ g.1.toNat∧(∀ m,m≤c→ds.getD m 0=(tdT g c).getD m 0)∧∀ m,c < m→m < 2 ^ g.1.toNat→ds.getD m 0=0
theorem zcL {F c:Nat} {g:Gr} {ds:List Int} (hg:yz g=true) (hc:c + 1 < 2 ^ g.1.toNat) (hF:300≤F) (hI:TdI g c ds) :
    ∃ b:Nat,xV F ⟨yF g⟩ ds ((c + 1:Nat):Int)=some (b:Int)∧b < g.1.toNat∧(c + 1).testBit b=true ∧
     1 + (tdT g c).getD (c + 1 - 2 ^ b) 0=(zp (c + 1).testBit g.1.toNat).foldl (fun s y=>min s (1 + (tdT g c).getD (c + 1 - 2 ^ y.toNat) 0)) (g.1.toNat:Int):=by
 have h8:=zT hg
 have h256:=Zi (n:=g.1.toNat) (by omega)
 have hok:=NZ hg c (by omega)
 have hself:=vQ hc
 unfold xV
 have hso:=JH (F:=F) (n:=g.1.toNat) (p:=(c + 1).testBit) (by omega) (by omega)
 rw [hself] at hso
 rw [hso,zc]
 have hl8:(zp (c + 1).testBit g.1.toNat).length≤8:=by rw [y9];exact xz wt (by omega)
 have hpos:0 < (zp (c + 1).testBit g.1.toNat).length:=by
  rw [y9]
  have:∃ j,j < g.1.toNat∧(c + 1).testBit j=true:=by
   apply Classical.byContradiction
   intro hne
   have:mkm (c + 1).testBit g.1.toNat=0:=by
    rw [Xa,vm]
    intro j hj
    cases h:(c + 1).testBit j with
    | false=>rfl
    | true=>exact absurd ⟨j,hj,h⟩ hne
   omega
  obtain ⟨j,hj,hb⟩:=this
  have:=Uq (p:=fun _=>false) (q:=(c + 1).testBit) (n:=g.1.toNat) (by simp) ⟨j,hj,rfl,hb⟩
  omega
 let v:Int→Int:=fun y=>1 + (tdT g c).getD (c + 1 - 2 ^ y.toNat) 0
 have hat:∀ y:Nat,y < g.1.toNat→(c + 1).testBit y=true→∃ q,Xr .i64 1 (y:Int)=some q∧idx ds (yW .i64 ((c + 1:Nat):Int) q)=some (v y - 1)∧v y≤g.1.toNat∧0≤v y:=by
  intro y hy hb
  obtain ⟨d1,d2,d3⟩:=Xb (c + 1) (by omega) y (by omega) hb
  have hp:=yi y
  have hbd:=hok (c + 1 - 2 ^ y) (by omega)
  have hpp:=Wp (n:=g.1.toNat) (m:=c + 1) (by omega) hc
  refine ⟨_,xB (by omega),?_,?_,?_⟩
  · rw [d1,zY (d:=0) (by rw [hI.1];omega),hI.2.1 _ (by omega)]
    show some _=some (1 + (tdT g c).getD (c + 1 - 2 ^ (y:Int).toNat) 0 - 1)
    rw [z5];congr 1;omega
  · show 1 + (tdT g c).getD (c + 1 - 2 ^ (y:Int).toNat) 0≤_
    rw [z5];omega
  · show 0≤1 + (tdT g c).getD (c + 1 - 2 ^ (y:Int).toNat) 0
    rw [z5];omega
 obtain ⟨s,hsI,h2⟩:=U2 (L:=fun k i s=>yT F ds ((c + 1:Nat):Int) (zp (c + 1).testBit g.1.toNat) k s i) (n:=(zp (c + 1).testBit g.1.toNat).length)
  (fun i (s:Int)=>(i=0→s=-1)∧(0 < i→∃ b:Nat,s=b∧b < g.1.toNat∧(c + 1).testBit b=true∧v b=((zp (c + 1).testBit g.1.toNat).take i).foldl (fun s y=>min s (v y)) (g.1.toNat:Int))) (fin:=fun s=>some s) (fun k i s hi hsI=>by
    obtain ⟨y,hy,hyn,hyb⟩:=w7 hi
    have htk:((zp (c + 1).testBit g.1.toNat).take (i + 1)).foldl (fun s y=>min s (v y)) (g.1.toNat:Int)=min (((zp (c + 1).testBit g.1.toNat).take i).foldl (fun s y=>min s (v y)) (g.1.toNat:Int)) (v y):=by
     rw [List.take_add_one,zX hi,List.foldl_append]
     have e:(zp (c + 1).testBit g.1.toNat)[i]=(y:Int):=by rw [← hy,zC,zX hi];rfl
     rw [e];rfl
    have hwi:w64 ((i:Int) + 1)=((i + 1:Nat):Int):=yk hi (by unfold Sm;omega)
    obtain ⟨qy,q1,q2,q3,q4⟩:=hat y hyn hyb
    simp only [yT,w8,vg]
    rw [zt (show (i:Int) < ((zp (c + 1).testBit g.1.toNat).length:Int) by omega),zl,zY (d:=0) hi,zc,hy,hwi]
    by_cases h0:i=0
    · subst h0
      rw [hsI.1 rfl]
      refine ⟨(y:Int),⟨by omega,fun _=>⟨y,rfl,hyn,hyb,?_⟩⟩,rfl⟩
      rw [htk]
      simp only [List.take_zero,List.foldl_nil]
      omega
    · obtain ⟨b,hb1,hb2,hb3,hb4⟩:=hsI.2 (by omega)
      subst hb1
      obtain ⟨qb,r1,r2,r3,r4⟩:=hat b hb2 hb3
      rw [zL (show ¬ (b:Int) < 0 by omega),zi,q1,zc,q2,zc,r1,zc,r2,zc]
      by_cases hlt:v y - 1 < v b - 1
      · rw [zt hlt,zl]
        refine ⟨(y:Int),⟨by omega,fun _=>⟨y,rfl,hyn,hyb,?_⟩⟩,rfl⟩
        rw [htk,← hb4];omega
      · rw [zL hlt,zi]
        refine ⟨(b:Int),⟨by omega,fun _=>⟨b,rfl,hb2,hb3,?_⟩⟩,rfl⟩
        rw [htk,← hb4];omega) (fun k s _=>by
    simp only [yT]
    rw [zL (show ¬ ((zp (c + 1).testBit g.1.toNat).length:Int) < ((zp (c + 1).testBit g.1.toNat).length:Int) by omega),zi]) F (-1) (by omega) ⟨fun _=>rfl,fun h=>by omega⟩
 obtain ⟨b,hb1,hb2,hb3,hb4⟩:=hsI.2 hpos
 subst hb1
 refine ⟨b,h2,hb2,hb3,?_⟩
 rw [List.take_length] at hb4
 have e:v b=1 + (tdT g c).getD (c + 1 - 2 ^ b) 0:=by
  show 1 + (tdT g c).getD (c + 1 - 2 ^ (b:Int).toNat) 0=_
  rw [z5]
 rw [← e,hb4]
theorem zkR {c:Nat} {g:Gr} {ds:List Int} (hI:TdI g c ds) (hc:c + 1 < 2 ^ g.1.toNat):TdI g (c + 1) (ds.set (c + 1) (tdV g (tdT g c) (c + 1))):=by
 refine ⟨by simp [hI.1],fun m hm=>?_,fun m h1 h2=>?_⟩
 · rw [Zx (by rw [hI.1];exact hc)]
   by_cases e:c + 1=m
   · subst e;rw [if_pos rfl,MQ]
   · rw [if_neg e,zcG (by omega)];exact hI.2.1 m (by omega)
 · rw [Zx (by rw [hI.1];exact hc),if_neg (by omega)]
   exact hI.2.2 m (by omega) h2
theorem zlD {F c k:Nat} {g:Gr} {ds:List Int} (hg:yz g=true) (hc:c + 1 < 2 ^ g.1.toNat) (hF:300≤F) (hI:TdI g c ds) :
    yq F ⟨yF g⟩ (k + 1) ds ((c + 1:Nat):Int)=yq F ⟨yF g⟩ k (ds.set (c + 1) (tdV g (tdT g c) (c + 1))) ((c + 1 + 1:Nat):Int):=by
 have h8:=zT hg
 have h256:=Zi (n:=g.1.toNat) (by omega)
 have hok:=NZ hg c (by omega)
 have hself:=vQ hc
 rw [yq]
 have hps:=zdn (F:=F) (p:=(c + 1).testBit) hg (by omega)
 rw [hself] at hps
 have hw:w64 (((c + 1:Nat):Int) + 1)=((c + 1 + 1:Nat):Int):=by rw [xp (by omega) (by omega)];omega
 rw [zt (show ((c + 1:Nat):Int) < (ds.length:Int) by rw [hI.1];omega),zl,hps,zc]
 have hmapl:((prt g g.1.toNat (c + 1).testBit).map fun (m:Nat)=>(m:Int)).length=(prt g g.1.toNat (c + 1).testBit).length:=by simp
 rw [hmapl]
 by_cases hl:1 < (prt g g.1.toNat (c + 1).testBit).length
 · rw [zt (show ((prt g g.1.toNat (c + 1).testBit).length:Int) > 1 by omega),zl]
   have htd:tdV g (tdT g c) (c + 1)=(prt g g.1.toNat (c + 1).testBit).foldl (fun s m=>max s ((tdT g c).getD m 0)) 0:=by unfold tdV;rw [if_pos hl]
   have hP20:(prt g g.1.toNat (c + 1).testBit).length≤256:=by
    have:∀ d p,(prt g d p).length≤d:=by
     intro d
     induction d with
     | zero=>intro p;simp [prt]
     | succ d ih=>
       intro p;rw [prt]
       cases ZH p g.1.toNat with
       | none=>simp
       | some x=>simp;exact ih _
    have:=this g.1.toNat (c + 1).testBit
    omega
   generalize hP:prt g g.1.toNat (c + 1).testBit=P at hl htd hP20 hmapl ⊢
   rw [htd]
   refine wU (L:=fun k2 i s=>xM F ⟨yF g⟩ ((c + 1:Nat):Int) (P.map fun (m:Nat)=>(m:Int)) (yq F ⟨yF g⟩ k) k2 s i) (n:=P.length)
    (fun i s=>s=ds.set (c + 1) ((P.take i).foldl (fun s m=>max s ((tdT g c).getD m 0)) 0)) ?_ ?_ F _ (by omega) ?_
   · intro k2 i s hi hs
     subst hs
     have hm:P.getD i 0∈prt g g.1.toNat (c + 1).testBit:=by rw [hP];exact vo hi
     have hmlt:=N6 hg hc (by rw [hP];exact hl) _ hm
     have hget:idx (P.map fun (m:Nat)=>(m:Int)) (i:Int)=some ((P.getD i 0:Nat):Int):=by
      rw [zY (d:=0) (by rw [hmapl];exact hi),zC,Y0,zX hi,zC,zX hi];rfl
     have hset:∀ y:Int,idx (ds.set (c + 1) y) ((c + 1:Nat):Int)=some y:=by
      intro y;rw [zY (d:=0) (by simp [hI.1];omega),Zx (by rw [hI.1];omega),if_pos rfl]
     have hoth:∀ y:Int,idx (ds.set (c + 1) y) ((P.getD i 0:Nat):Int)=some ((tdT g c).getD (P.getD i 0) 0):=by
      intro y;rw [zY (d:=0) (by rw [List.length_set,hI.1];omega),Zx (by rw [hI.1];omega),if_neg (by omega),hI.2.1 _ (by omega)]
     have htk:(P.take (i + 1)).foldl (fun s m=>max s ((tdT g c).getD m 0)) 0=max ((P.take i).foldl (fun s m=>max s ((tdT g c).getD m 0)) 0) ((tdT g c).getD (P.getD i 0) 0):=by
      have e:P.getD i 0=P[i]:=by rw [zC,zX hi];rfl
      rw [List.take_add_one,zX hi,List.foldl_append,e];rfl
     refine ⟨_,rfl,?_⟩
     simp only [xM]
     rw [hmapl,zt (show (i:Int) < (P.length:Int) by omega),zl,hget,zc,hset,zc,hoth,zc,zc,yk hi (by unfold Sm;omega),z5,List.set_set,htk]
     congr 2
     split <;> omega
   · intro k2 s hs
     subst hs
     simp only [xM]
     rw [hmapl,zL (show ¬ (P.length:Int) < (P.length:Int) by omega),zi,List.take_length,hw]
   · have h0:=hI.2.2 (c + 1) (by omega) (by omega)
     show ds=ds.set (c + 1) 0
     apply List.ext_getElem?
     intro j
     rw [List.getElem?_set]
     split
     · rename_i e;subst e
       rw [zC,zX (by rw [hI.1];exact hc)] at h0
       simp only [yV] at h0
       rw [if_pos (by rw [hI.1];exact hc),zX (by rw [hI.1];exact hc),h0]
     · rfl
 · rw [zL (show ¬ ((prt g g.1.toNat (c + 1).testBit).length:Int) > 1 by omega),zi]
   have htd:tdV g (tdT g c) (c + 1)=(zp (c + 1).testBit g.1.toNat).foldl (fun s y=>min s (1 + (tdT g c).getD (c + 1 - 2 ^ y.toNat) 0)) (g.1.toNat:Int):=by unfold tdV;rw [if_neg hl]
   obtain ⟨b,hb1,hb2,hb3,hb4⟩:=zcL hg hc hF hI
   obtain ⟨d1,d2,d3⟩:=Xb (c + 1) (by omega) b (by omega) hb3
   have hp:=yi b
   have hbd:=hok (c + 1 - 2 ^ b) (by omega)
   have hpp:=Wp (n:=g.1.toNat) (m:=c + 1) (by omega) hc
   rw [hb1,zc,xB (by omega),zc,d1,zY (d:=0) (by rw [hI.1];omega),hI.2.1 _ (by omega),zc,zY (d:=0) (by rw [hI.1];omega),zc,z5,hw]
   have hw2:w64 ((tdT g c).getD (c + 1 - 2 ^ b) 0 + 1)=tdV g (tdT g c) (c + 1):=by
    rw [xp (by omega) (by omega),htd,← hb4];omega
   rw [hw2]
theorem KI {F:Nat} {g:Gr} (hg:yz g=true) (hF:300≤F):∃ ds,xt F ⟨yF g⟩=some ds∧TdI g (2 ^ g.1.toNat - 1) ds:=by
 have h8:=zT hg
 have h256:=Zi (n:=g.1.toNat) (by omega)
 have hpow:=yi g.1.toNat
 unfold xt xa
 rw [vz,xB (by omega),zc,zc]
 have hw:w64 (w64 (((2 ^ g.1.toNat:Nat):Int) - 1) + 1)=((2 ^ g.1.toNat:Nat):Int):=by
  rw [xp (x:=((2 ^ g.1.toNat:Nat):Int) - 1) (by omega) (by omega),xp (by omega) (by omega)];omega
 rw [hw,Uh (by omega),zc]
 obtain ⟨ds,h1,h2⟩:=U2 (L:=fun k i s=>yq F ⟨yF g⟩ k s (i + 1)) (n:=2 ^ g.1.toNat - 1) (TdI g) (fin:=fun s=>some s) (fun k i s hi hI=>by
     refine ⟨_,zkR hI (by omega),?_⟩
     have hc:(i:Int) + 1=((i + 1:Nat):Int):=by omega
     have hc2:((i + 1:Nat):Int) + 1=((i + 1 + 1:Nat):Int):=by omega
     show yq F ⟨yF g⟩ (k + 1) s ((i:Int) + 1)=yq F ⟨yF g⟩ k _ (((i + 1:Nat):Int) + 1)
     rw [hc,hc2]
     exact zlD hg (by omega) hF hI) (fun k s hI=>by
     simp only [yq]
     rw [zL (show ¬ ((2 ^ g.1.toNat - 1:Nat):Int) + 1 < (s.length:Int) by rw [hI.1];omega),zi]) F (List.replicate (2 ^ g.1.toNat) 0) (by omega) ⟨by simp,fun m hm=>by
      obtain rfl:m=0:=by omega
      simp [tdT,zC,hpow],fun m _ hm=>by simp [zC,hm]⟩
 exact ⟨ds,h2,h1⟩
theorem zlg {F:Nat} {g:Gr} (hG:g.2.length < F) (hF:300≤F) (hs:Sm g.2.length):wQ F g=some (bif yz g then ((tdT g (2 ^ g.1.toNat - 1)).getD (2 ^ g.1.toNat - 1) 0,true) else (0,false)):=by
 unfold wQ
 rw [YG hG (by omega) hs,zc]
 cases hg:yz g with
 | false=>rfl
 | true=>
   have h8:=zT hg
   have h256:=Zi (n:=g.1.toNat) (by omega)
   have hpow:=yi g.1.toNat
   obtain ⟨ds,h1,h2⟩:=KI hg hF
   rw [y0,zi,zl,Jz hg hG hs,zc,h1,zc]
   unfold xa
   rw [vz,xB (by omega),zc,zc]
   have hw:w64 (((2 ^ g.1.toNat:Nat):Int) - 1)=((2 ^ g.1.toNat - 1:Nat):Int):=by rw [xp (by omega) (by omega)];omega
   rw [hw,zY (d:=0) (by rw [h2.1];omega),zc,h2.2.1 _ (yP _)]
def spr (g:Gr) (f u:Nat→Bool) (j:Nat):Bool:=uC (fun y=>u y && f y && yY g f y j) g.1.toNat
def LW (step:Int):Int:=if step < 0 then -1 - step else step
def zod (n:Nat) (p:Nat→Bool) (step:Int):Bool:=decide (LW step < n) && (p (LW step).toNat == decide (step < 0))
def Js (p:Nat→Bool) (step:Int) (j:Nat):Bool:=if step < 0 then p j && !(j == (LW step).toNat) else p j || j == (LW step).toNat
end Go.Zq
