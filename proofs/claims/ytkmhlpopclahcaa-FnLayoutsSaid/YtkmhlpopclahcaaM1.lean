/- Plain mathematics: what the functions answer (part 1). Conditions: stated in each theorem. -/
import Derived.Test.YtkmhlpopclahcaaK3
import Derived.Test.YtkmhlpopclahcaaGT
set_option linter.unusedVariables false
set_option linter.unusedSimpArgs false
namespace Go.Zq
def XG (F : Nat) (x_1 : Int) (x_8 : Int) (c1 : (NL Int) → Int → Option (NL Int)) (x_17 : (NL Int)) : Option (NL Int) :=
 c1 x_17 (w64 (x_8 + 1))
def uZ (F : Nat) (x_1 : Int)  : Nat → (NL Int) → Int → Option (NL Int)
 | 0, _, _ => none
 | k + 1, x_7, x_8 =>
   (Z6 .i64 x_1 x_8).bind fun q_14 =>
   bif (q_14 != 0) then
    (Z6 .i64 x_1 x_8).bind fun q_15 =>
    bif ((z6 .i64 q_15 1) == 1) then
     (wM x_7.list [x_8]).bind fun ap_18 =>
     XG F x_1 x_8 (uZ F x_1 k) (.of ap_18)
    else
     XG F x_1 x_8 (uZ F x_1 k) x_7
   else
    some x_7
def JI (F : Nat) (x_1 : Int) : Option (NL Int) :=
 uZ F x_1 F .nil 0
def zQ (F : Nat) (best_2 : (List Int)) (cost_3 : (Cl 24 ((S1 (List Int)) × Unit) Unit)) (w_1 : (S1 (List Int))) (order_35 : (NL Int)) (set_36 : Int) (r_70 : (List Int)) (c1 : (NL Int) → Int → Option (NL Int)) : Nat → Int → Option (NL Int)
 | 0, _ => none
 | k + 1, t21_80 =>
   bif decide (t21_80 < (r_70.length : Int)) then
    (idx r_70 t21_80).bind fun e_90 =>
    (yr F cost_3.fs.1 set_36 e_90).bind fun r_91 =>
    (ZW .i64 1 e_90).bind fun q_92 =>
    (idx best_2 (ior .i64 set_36 q_92)).bind fun e_93 =>
    (idx best_2 0).bind fun e_94 =>
    bif decide ((if e_93 > r_91 then e_93 else r_91) ≤ e_94) then
     (wM order_35.list [e_90]).bind fun ap_97 =>
     (ZW .i64 1 e_90).bind fun q_98 =>
     c1 (.of ap_97) (ior .i64 set_36 q_98)
    else
     (zQ F best_2 cost_3 w_1 order_35 set_36 r_70 c1 k) (w64 (t21_80 + 1))
   else
    c1 order_35 set_36
def zG (F : Nat) (best_2 : (List Int)) (cost_3 : (Cl 24 ((S1 (List Int)) × Unit) Unit)) (w_1 : (S1 (List Int)))  : Nat → (NL Int) → Int → Option (NL Int)
 | 0, _, _ => none
 | k + 1, order_35, set_36 =>
   (y8 F w_1).bind fun r_68 =>
   bif (set_36 != r_68) then
    (y8 F w_1).bind fun r_69 =>
    (uk F (wC .i64 r_69 set_36)).bind fun r_70 =>
    zQ F best_2 cost_3 w_1 order_35 set_36 r_70 (zG F best_2 cost_3 w_1 k) F 0
   else
    some order_35
def yX (F : Nat) (w_1 : (S1 (List Int))) (best_2 : (List Int)) (cost_3 : (Cl 24 ((S1 (List Int)) × Unit) Unit)) : Option (NL Int) :=
 zG F best_2 cost_3 w_1 F .nil 0
def uU (F : Nat) (g_1 : (Int × (List (Int × Int)))) : Option ((NL Int) × Bool) :=
 (xP F g_1).bind fun r_2 =>
 bif (!r_2) then
  some (.nil, false)
 else
  (vp F g_1).bind fun r_3 =>
  (zO F r_3 0 (Cl.mk (r_3, ()) () : (Cl 24 ((S1 (List Int)) × Unit) Unit))).bind fun r_4 =>
  (yX F r_3 r_4 (Cl.mk (r_3, ()) () : (Cl 24 ((S1 (List Int)) × Unit) Unit))).bind fun r_5 =>
  some (r_5, true)
def Wy (F : Nat) (g_1 : (Int × (List (Int × Int)))) (set_2 : (List Int)) : Option ((NL Int) × Bool) :=
 (YJ F g_1 set_2).bind fun r_3 =>
 bif (!r_3) then
  some (.nil, false)
 else
  (vp F g_1).bind fun r_4 =>
  (ub F set_2).bind fun r_5 =>
  (x9 F r_4 r_5).bind fun r_6 =>
  (JI F r_6).bind fun r_7 =>
  some (r_7, true)
def y5 (F : Nat) (r_6 : (S1 (List Int))) (layout_2 : (List Int))  : Nat → (List Int) → Int → Int → Option ((NL Int) × Bool)
 | 0, _, _, _ => none
 | k + 1, sizes_12, set_13, t27_14 =>
   bif decide (t27_14 < (layout_2.length : Int)) then
    (idx layout_2 t27_14).bind fun e_19 =>
    (yr F r_6 set_13 e_19).bind fun r_20 =>
    (idx sizes_12 t27_14).bind fun e_21 =>
    (ZW .i64 1 e_19).bind fun q_22 =>
    (y5 F r_6 layout_2 k) (sizes_12.set t27_14.toNat r_20) (ior .i64 set_13 q_22) (w64 (t27_14 + 1))
   else
    some ((.of sizes_12), true)
def vr (F : Nat) (layout_2 : (List Int)) (g_1 : (Int × (List (Int × Int))))  (t19_5 : Bool) : Option ((NL Int) × Bool) :=
 bif t19_5 then
  some (.nil, false)
 else
  (vp F g_1).bind fun r_6 =>
  (mkN g_1.1 0).bind fun mk_7 =>
  y5 F r_6 layout_2 F mk_7 0 0
def Yy (F : Nat) (g_1 : (Int × (List (Int × Int)))) (layout_2 : (List Int)) : Option ((NL Int) × Bool) :=
 (xP F g_1).bind fun r_23 =>
 bif (!r_23) then
  vr F layout_2 g_1 true
 else
  (vS F g_1 layout_2).bind fun r_24 =>
  vr F layout_2 g_1 (!r_24)
theorem xW {x : Int} (h1 : -9223372036854775808 ≤ x) (h2 : x < 9223372036854775808) : w64 x = x := by
 show IntKind.wrap .i64 x = x
 simp only [IntKind.wrap, IntKind.bits, IntKind.signed, Bool.true_and]
 have e1 : ((2 : Int) ^ 64) = 18446744073709551616 := by decide
 have e2 : ((2 : Int) ^ (64 - 1)) = 9223372036854775808 := by decide
 simp only [e1, e2]
 split
 · rename_i h; simp only [ge_iff_le, decide_eq_true_eq] at h; omega
 · rename_i h; simp only [ge_iff_le, decide_eq_true_eq] at h; omega
def Sm (n : Nat) : Prop := n ≤ 4611686018427387904
theorem z3 {i n : Nat} (hi : i < n) (hn : Sm n) : w64 ((i : Int) + 1) = ((i + 1 : Nat) : Int) := by
 unfold Sm at hn
 rw [xW (by omega) (by omega)]; omega
theorem Uy {i n : Nat} (h0 : 0 < i) (hi : i < n) (hn : Sm n) : w64 ((i : Int) - 1) = ((i - 1 : Nat) : Int) := by
 unfold Sm at hn
 rw [xW (by omega) (by omega)]; omega
theorem XS {α : Type} {xs : List α} {i : Nat} (h : i < xs.length) : idx xs (i : Int) = some xs[i] := by
 unfold idx
 rw [if_pos (by omega)]
 simp [h]
theorem zX {α : Type} {xs : List α} {i : Nat} {d : α} (h : i < xs.length) : idx xs (i : Int) = some (xs.getD i d) := by
 rw [XS h]; simp [h]
def vC (p : Nat → Bool) : Nat → Bool
 | 0 => true
 | n + 1 => vC p n && p n
def xV (p : Nat → Bool) : Nat → Bool
 | 0 => false
 | n + 1 => xV p n || p n
theorem yI {p : Nat → Bool} : ∀ {n : Nat}, vC p n = true ↔ ∀ i, i < n → p i = true
 | 0 => by simp [vC]
 | n + 1 => by
   simp only [vC, Bool.and_eq_true, yI]
   constructor
   · rintro ⟨h1, h2⟩ i hi
     by_cases e : i = n
     · subst e; exact h2
     · exact h1 i (by omega)
   · intro h
     exact ⟨fun i hi => h i (by omega), h n (by omega)⟩
theorem Kq {p q : Nat → Bool} {n : Nat} (h : ∀ i, i < n → p i = q i) : vC p n = vC q n := by
 rw [Bool.eq_iff_iff, yI, yI]
 constructor
 · intro h1 i hi; rw [← h i hi]; exact h1 i hi
 · intro h1 i hi; rw [h i hi]; exact h1 i hi
theorem Xh {p : Nat → Bool} : ∀ {n : Nat}, xV p n = true ↔ ∃ i, i < n ∧ p i = true
 | 0 => by simp [xV]
 | n + 1 => by
   simp only [xV, Bool.or_eq_true, Xh]
   constructor
   · rintro (⟨i, h1, h2⟩ | h)
     · exact ⟨i, by omega, h2⟩
     · exact ⟨n, by omega, h⟩
   · rintro ⟨i, h1, h2⟩
     by_cases e : i = n
     · subst e; exact .inr h2
     · exact .inl ⟨i, by omega, h2⟩
theorem Km {p : Nat → Bool} {n : Nat} : xV p n = !vC (fun i => !p i) n := by
 induction n with
 | zero => rfl
 | succ n ih => simp [xV, vC, ih, Bool.not_and]
theorem zby {p q : Nat → Bool} {n : Nat} (h : ∀ i, i < n → p i = q i) : xV p n = xV q n := by
 rw [Km, Km, Kq]; intro i hi; rw [h i hi]
theorem vv {β : Type} {L : Nat → Int → Option β} {n : Nat} {p : Nat → Bool} {bad fin : Option β} (hs : ∀ k i, i < n → L (k + 1) (i : Int) = bif p i then L k ((i + 1 : Nat) : Int) else bad) (he : ∀ k, L (k + 1) (n : Int) = fin) :
    ∀ k, n < k → L k 0 = bif vC p n then fin else bad := by
 have key : ∀ d k i, i + d = n → d < k → (∀ j, j < i → p j = true) → L k (i : Int) = bif vC p n then fin else bad := by
  intro d
  induction d with
  | zero =>
    intro k i hi hk hp
    obtain ⟨k, rfl⟩ : ∃ k', k = k' + 1 := ⟨k - 1, by omega⟩
    obtain rfl : i = n := by omega
    rw [he, show vC p i = true from yI.2 hp]; rfl
  | succ d ih =>
    intro k i hi hk hp
    obtain ⟨k, rfl⟩ : ∃ k', k = k' + 1 := ⟨k - 1, by omega⟩
    rw [hs k i (by omega)]
    cases hpi : p i with
    | true =>
      simp only [cond_true]
      refine ih k (i + 1) (by omega) (by omega) ?_
      intro j hj
      by_cases e : j = i
      · subst e; exact hpi
      · exact hp j (by omega)
    | false =>
      have : vC p n = false := by
       rw [Bool.eq_false_iff]; intro h
       have := yI.1 h i (by omega); rw [hpi] at this; cases this
      rw [this]; rfl
 intro k hk
 exact key n k 0 (by omega) hk (by simp)
theorem zdN {β σ : Type} {L : Nat → Int → σ → Option β} {n : Nat} (I : Nat → σ → Prop) {fin : σ → Option β} (st : Nat → σ → σ)
    (hs : ∀ k i s, i < n → I i s → L (k + 1) (i : Int) s = L k ((i + 1 : Nat) : Int) (st i s)) (hi : ∀ i s, i < n → I i s → I (i + 1) (st i s)) (he : ∀ k s, I n s → L (k + 1) (n : Int) s = fin s) :
    ∀ k s0, n < k → I 0 s0 → ∃ s, I n s ∧ L k 0 s0 = fin s ∧ s = (List.range n).foldl (fun s i => st i s) s0 := by
 have key : ∀ d k i s, i + d = n → d < k → I i s → ∃ s', I n s' ∧ L k (i : Int) s = fin s' ∧ s' = (List.range' i d).foldl (fun s i => st i s) s := by
  intro d
  induction d with
  | zero =>
    intro k i s hi hk hI
    obtain ⟨k, rfl⟩ : ∃ k', k = k' + 1 := ⟨k - 1, by omega⟩
    obtain rfl : i = n := by omega
    exact ⟨s, hI, he k s hI, rfl⟩
  | succ d ih =>
    intro k i s hd hk hI
    obtain ⟨k, rfl⟩ : ∃ k', k = k' + 1 := ⟨k - 1, by omega⟩
    rw [hs k i s (by omega) hI]
    obtain ⟨s', h1, h2, h3⟩ := ih k (i + 1) (st i s) (by omega) (by omega) (hi i s (by omega) hI)
    exact ⟨s', h1, h2, by rw [h3, List.range'_succ]; rfl⟩
 intro k s0 hk hI
 obtain ⟨s', h1, h2, h3⟩ := key n k 0 s0 (by omega) hk hI
 exact ⟨s', h1, h2, by rw [h3, List.range_eq_range']⟩
theorem xo {β σ : Type} {L : Nat → Int → σ → Option β} {n : Nat} (I : Nat → σ → Prop) {r : Option β}
    (hs : ∀ k i s, i < n → I i s → ∃ s', I (i + 1) s' ∧ L (k + 1) (i : Int) s = L k ((i + 1 : Nat) : Int) s') (he : ∀ k s, I n s → L (k + 1) (n : Int) s = r) :
    ∀ k s0, n < k → I 0 s0 → L k 0 s0 = r := by
 have key : ∀ d k i s, i + d = n → d < k → I i s → L k (i : Int) s = r := by
  intro d
  induction d with
  | zero =>
    intro k i s hi hk hI
    obtain ⟨k, rfl⟩ : ∃ k', k = k' + 1 := ⟨k - 1, by omega⟩
    obtain rfl : i = n := by omega
    exact he k s hI
  | succ d ih =>
    intro k i s hd hk hI
    obtain ⟨k, rfl⟩ : ∃ k', k = k' + 1 := ⟨k - 1, by omega⟩
    obtain ⟨s', h1, h2⟩ := hs k i s (by omega) hI
    rw [h2]
    exact ih k (i + 1) s' (by omega) (by omega) h1
 intro k s0 hk hI
 exact key n k 0 s0 (by omega) hk hI
theorem MP {α : Type} {n : Nat} {x : α} (h : n ≤ 1099511627776) : mkN (n : Int) x = some (List.replicate n x) := by
 unfold mkN
 rw [if_pos ⟨by omega, by have : ((2 : Int) ^ 40) = 1099511627776 := by decide
                          omega⟩]
 simp
theorem zcP {β : Type} {L : Nat → Int → Option β} {n : Nat} {r : Option β} (hs : ∀ k i, i < n → L (k + 1) (i : Int) = L k ((i + 1 : Nat) : Int)) (he : ∀ k, L (k + 1) (n : Int) = r) : ∀ k, n < k → L k 0 = r := by
 intro k hk
 exact xo (L := fun k i (_ : Unit) => L k i) (fun _ _ => True) (fun k i s hi _ => ⟨(), trivial, hs k i hi⟩) (fun k s _ => he k) k () hk trivial
theorem ue {α : Type} {l : List α} {i : Nat} {d : α} (h : i < l.length) : l.getD i d ∈ l := by
 rw [List.getD_eq_getElem?_getD, List.getElem?_eq_getElem h]; exact List.getElem_mem h
theorem YA {α : Type} {xs : List α} {y : α} (h : xs.length < 1099511627776) : wM xs [y] = some (xs ++ [y]) := by
 unfold wM
 rw [if_pos]
 have : (2 : Nat) ^ 40 = 1099511627776 := by decide
 simp; omega
theorem zcR {β σ : Type} {L : Nat → Int → σ → Option β} {n : Nat} (I : Nat → σ → Prop) {fin : σ → Option β}
    (hs : ∀ k i s, i < n → I i s → ∃ s', I (i + 1) s' ∧ L (k + 1) (i : Int) s = L k ((i + 1 : Nat) : Int) s') (he : ∀ k s, I n s → L (k + 1) (n : Int) s = fin s) :
    ∀ k s0, n < k → I 0 s0 → ∃ s, I n s ∧ L k 0 s0 = fin s := by
 have key : ∀ d k i s, i + d = n → d < k → I i s → ∃ s', I n s' ∧ L k (i : Int) s = fin s' := by
  intro d
  induction d with
  | zero =>
    intro k i s hi hk hI
    obtain ⟨k, rfl⟩ : ∃ k', k = k' + 1 := ⟨k - 1, by omega⟩
    obtain rfl : i = n := by omega
    exact ⟨s, hI, he k s hI⟩
  | succ d ih =>
    intro k i s hd hk hI
    obtain ⟨k, rfl⟩ : ∃ k', k = k' + 1 := ⟨k - 1, by omega⟩
    obtain ⟨s', h1, h2⟩ := hs k i s (by omega) hI
    rw [h2]
    exact ih k (i + 1) s' (by omega) (by omega) h1
 intro k s0 hk hI
 exact key n k 0 s0 (by omega) hk hI
end Go.Zq
namespace Go.Zq
theorem w1 : w64 1 = 1 := by decide
theorem w2 : w64 2 = 2 := by decide
end Go.Zq
namespace Go.Zq
theorem Kl {n : Nat} (h : n < 9223372036854775808) : w64 (n : Int) = n := xW (by omega) (by omega)
theorem JD (n : Nat) (h : n < 9223372036854775808) : (BitVec.ofInt (IntKind.bits .i64) (n : Int)).toNat = n := by
 show (BitVec.ofInt 64 (n : Int)).toNat = n
 rw [BitVec.ofInt_natCast, BitVec.toNat_ofNat]
 exact Nat.mod_eq_of_lt (by omega)
theorem YK {a b : Nat} (ha : a < 9223372036854775808) (hb : b < 9223372036854775808) : ior .i64 a b = ((a ||| b : Nat) : Int) := by
 unfold ior
 rw [BitVec.toNat_or, JD a ha, JD b hb]
 exact Kl (Nat.or_lt_two_pow (n := 63) ha hb)
theorem zgg {a b : Nat} (ha : a < 9223372036854775808) (hb : b < 9223372036854775808) : z6 .i64 a b = ((a &&& b : Nat) : Int) := by
 unfold z6
 rw [BitVec.toNat_and, JD a ha, JD b hb]
 exact Kl (Nat.and_lt_two_pow (n := 63) a hb)
theorem WC {a b : Nat} (ha : a < 9223372036854775808) (hb : b < 9223372036854775808) : ∃ c : Nat, wC .i64 a b = (c : Int) ∧ c ≤ a ∧ ∀ j, c.testBit j = (a.testBit j && !b.testBit j) := by
 refine ⟨a &&& (18446744073709551615 - b), ?_, Nat.and_le_left, ?_⟩
 · unfold wC
   rw [BitVec.toNat_and, BitVec.toNat_not, JD a ha, JD b hb]
   have e : (2 : Nat) ^ (IntKind.bits .i64) - 1 - b = 18446744073709551615 - b := rfl
   rw [e]
   exact Kl (Nat.lt_of_le_of_lt Nat.and_le_left ha)
 · intro j
   rw [Nat.testBit_and]
   have e : 18446744073709551615 - b = 2 ^ 64 - (b + 1) := by
    have : (2 : Nat) ^ 64 = 18446744073709551616 := by decide
    omega
   rw [e, Nat.testBit_two_pow_sub_succ (by have : (2 : Nat) ^ 64 = 18446744073709551616 := by decide
                                           omega)]
   by_cases hj : j < 64
   · simp [hj]
   · have : a.testBit j = false := Nat.testBit_lt_two_pow (Nat.lt_of_lt_of_le ha (Nat.pow_le_pow_right (n := 2) (by decide) (show 63 ≤ j by omega)))
     simp [this]
theorem zgY {a j : Nat} (hj : j ≤ 62) (ha : a * 2 ^ j < 9223372036854775808) : ZW .i64 (a : Int) (j : Int) = some (((a * 2 ^ j : Nat)) : Int) := by
 unfold ZW
 rw [if_neg (by omega)]
 have e : (min (j : Int).toNat (IntKind.bits .i64)) = j := by
  simp only [Int.toNat_natCast]
  exact Nat.min_eq_left (by show j ≤ 64; omega)
 rw [e]
 have := Kl ha
 rw [show ((a : Int) * 2 ^ j) = ((a * 2 ^ j : Nat) : Int) by simp]
 rw [show IntKind.i64.wrap ((a * 2 ^ j : Nat) : Int) = w64 ((a * 2 ^ j : Nat) : Int) from rfl, this]
theorem xY {j : Nat} (hj : j ≤ 62) : ZW .i64 1 (j : Int) = some ((2 ^ j : Nat) : Int) := by
 have h : 1 * 2 ^ j < 9223372036854775808 := by
  have := Nat.pow_le_pow_right (n := 2) (by decide) hj
  have e : (2 : Nat) ^ 62 = 4611686018427387904 := by decide
  omega
 have := zgY (a := 1) hj h
 simpa using this
theorem zbU {a j : Nat} : Z6 .i64 (a : Int) (j : Int) = some ((a / 2 ^ (min j 64) : Nat) : Int) := by
 unfold Z6
 rw [if_neg (by omega)]
 simp only [Int.toNat_natCast]
 have : (IntKind.bits .i64) = 64 := rfl
 rw [this]
 rw [Int.fdiv_eq_ediv_of_nonneg _ (by exact_mod_cast Nat.zero_le _)]
 simp
theorem uX {j : Nat} (hj : j ≤ 62) : (2 : Nat) ^ j < 9223372036854775808 := by
 have := Nat.pow_le_pow_right (n := 2) (by decide) hj
 have e : (2 : Nat) ^ 62 = 4611686018427387904 := by decide
 omega
def zaJ (m : Nat) (p : Nat → Bool) : Prop := m < 9223372036854775808 ∧ ∀ j, m.testBit j = p j
theorem zbr {n : Nat} (hn : n ≤ 62) : zaJ (2 ^ n - 1) (fun j => decide (j < n)) :=
 ⟨by have := uX hn; omega, fun j => by rw [Nat.testBit_two_pow_sub_one]⟩
theorem WO : ∀ (n : Nat) (l : List Int), (∀ j, j < n → (j : Int) ∈ l) → n ≤ l.length ∧ (l.length = n → ∀ y ∈ l, 0 ≤ y ∧ y < n)
 | 0, l, _ => ⟨Nat.zero_le _, fun h y hy => by rw [List.length_eq_zero_iff.1 h] at hy; cases hy⟩
 | n + 1, l, h => by
   have hn := h n (by omega)
   have hp := List.length_pos_of_mem hn
   have ih := WO n (l.erase (n : Int)) (fun j hj => (List.mem_erase_of_ne (by omega)).2 (h j (by omega)))
   rw [List.length_erase_of_mem hn] at ih
   refine ⟨by omega, fun hl y hy => ?_⟩
   by_cases e : y = n
   · subst e; omega
   · have := ih.2 (by omega) y ((List.mem_erase_of_ne e).2 hy)
     omega
theorem za1 {m j : Nat} (hm : m < 9223372036854775808) (hj : j ≤ 62) : ∃ q : Int, Z6 .i64 (m : Int) (j : Int) = some q ∧ (z6 .i64 q 1 == 1) = m.testBit j ∧ (z6 .i64 q 1 == 0) = !m.testBit j := by
 refine ⟨_, zbU, ?_⟩
 have e : min j 64 = j := by omega
 rw [e]
 have hq : m / 2 ^ j < 9223372036854775808 := Nat.lt_of_le_of_lt (Nat.div_le_self _ _) hm
 have := zgg hq (b := 1) (by omega)
 rw [show ((1 : Nat) : Int) = 1 from rfl] at this
 rw [this, Nat.and_one_is_mod]
 have hb : m.testBit j = decide (m / 2 ^ j % 2 = 1) := by
  rw [Nat.testBit_eq_decide_div_mod_eq]
 rw [hb]
 have h2 := Nat.mod_two_eq_zero_or_one (m / 2 ^ j)
 rcases h2 with h2 | h2 <;> simp [h2]
end Go.Zq
namespace Go.Zq
abbrev Gr := Int × List (Int × Int)
theorem JG {F : Nat} {n lo hi : Int} : ZN F n lo hi = some (decide (lo ≤ n) && decide (n ≤ hi)) := by
 unfold ZN
 by_cases h : n ≥ lo
 · simp [h]
 · have : ¬ lo ≤ n := h
   simp [this]
theorem Nj {F : Nat} {n lo hi : Int} : Y3 F n lo hi = some (decide (lo ≤ n) && decide (n ≤ hi)) := by
 unfold Y3
 by_cases h : n ≥ lo
 · simp [h]
 · have : ¬ lo ≤ n := h
   simp [this]
def bef (a b : Int × Int) : Bool := decide (a.1 < b.1) || (a.1 == b.1) && decide (a.2 < b.2)
theorem Wn {F : Nat} {a b : Int × Int} : vI F a b = some (bef a b) := by
 unfold vI bef
 by_cases h : a.1 < b.1
 · simp [h]
 · cases e : (a.1 == b.1) <;> simp [h]
theorem zke {F : Nat} {x y : Int} : xT F x y = some (if x < y then -1 else if x > y then 1 else 0) := by
 unfold xT wD
 by_cases h : x < y
 · simp [h]
 · by_cases h2 : y < x <;> simp [h, h2]
theorem zhe {F : Nat} {a b : Int × Int} (hF : 3 ≤ F) : ∃ r, we F [a.1, a.2] [b.1, b.2] = some r ∧ (decide (r ≥ 0) = !bef a b) := by
 obtain ⟨k, rfl⟩ : ∃ k, F = k + 3 := ⟨F - 3, by omega⟩
 obtain ⟨a1, a2⟩ := a
 obtain ⟨b1, b2⟩ := b
 unfold we
 simp only [wA, zke, bef]
 by_cases h1 : a1 < b1
 · refine ⟨-1, ?_, ?_⟩ <;> simp [idx, h1]
 · by_cases h2 : b1 < a1
   · have e : ¬ a1 = b1 := by omega
     refine ⟨1, ?_, ?_⟩
     · simp [idx, h1, h2]
     · simp [h1, e]
   · obtain rfl : a1 = b1 := by omega
     by_cases h3 : a2 < b2
     · refine ⟨-1, ?_, ?_⟩ <;> simp [idx, h3, w1]
     · by_cases h4 : b2 < a2
       · refine ⟨1, ?_, ?_⟩ <;> simp [idx, h3, h4, w1]
       · obtain rfl : a2 = b2 := by omega
         refine ⟨0, ?_, ?_⟩ <;> simp [idx, w1, w2]
def okE (n : Int) (es : List (Int × Int)) (i : Nat) : Bool :=
 decide (0 ≤ (es.getD i (0, 0)).1) && decide ((es.getD i (0, 0)).1 < (es.getD i (0, 0)).2) && decide ((es.getD i (0, 0)).2 < n) && (i == 0 || bef (es.getD (i - 1) (0, 0)) (es.getD i (0, 0)))
def y7 (g : Gr) : Bool := decide (0 ≤ g.1) && decide (g.1 ≤ 8) && vC (okE g.1 g.2) g.2.length
theorem vx {F : Nat} {g : Gr} (hF : g.2.length < F) (h3 : 3 ≤ F) (hl : Sm g.2.length) : xP F g = some (y7 g) := by
 unfold xP
 rw [JG, Option.bind_some]
 unfold y7
 by_cases h : 0 ≤ g.1 ∧ g.1 ≤ 8
 · simp only [h.1, h.2, decide_true, Bool.and_self, Bool.not_true, cond_false, Bool.true_and]
   rw [vv (L := fun k i => yB F g k i) (n := g.2.length) (p := okE g.1 g.2) (bad := some false) (fin := some true) ?_ ?_ F hF]
   · cases vC (okE g.1 g.2) g.2.length <;> rfl
   · intro k i hi
     simp only [yB, wy]
     rw [zX (d := (0, 0)) hi, z3 hi hl]
     have hlt : decide ((i : Int) < g.2.length) = true := by simp [hi]
     simp only [hlt, cond_true, Option.bind_some, okE]
     generalize g.2.getD i (0, 0) = e
     by_cases h1 : e.1 < 0
     · have : ¬ 0 ≤ e.1 := by omega
       simp [h1, this]
     · by_cases h2 : e.1 ≥ e.2
       · have : ¬ e.1 < e.2 := by omega
         simp [h1, h2, this]
       · by_cases h4 : e.2 ≥ g.1
         · have : ¬ e.2 < g.1 := by omega
           simp [h1, h2, h4, this]
         · have a1 : 0 ≤ e.1 := by omega
           have a2 : e.1 < e.2 := by omega
           have a3 : e.2 < g.1 := by omega
           simp only [h1, h2, h4, a1, a2, a3, decide_true, decide_false, cond_false, Bool.and_self, Bool.true_and]
           by_cases h5 : i = 0
           · subst h5; simp
           · have h6 : decide ((i : Int) > 0) = true := by simp; omega
             have h7 : (i == 0) = false := by simpa using h5
             rw [h6, cond_true, Uy (by omega) hi hl, zX (d := (0, 0)) (by omega), h7]
             obtain ⟨r, hr, hr2⟩ := zhe (F := F) (a := g.2.getD (i - 1) (0, 0)) (b := e) h3
             simp only [Option.bind_some, hr, hr2, Bool.false_or]
             cases bef (g.2.getD (i - 1) (0, 0)) e <;> rfl
   · intro k; simp [yB]
 · have : (decide (0 ≤ g.1) && decide (g.1 ≤ 8)) = false := by
    rw [Bool.eq_false_iff]; intro h'; apply h; simpa using h'
   simp [this]
theorem uB {F : Nat} {g : Gr} (hF : g.2.length < F) (hl : Sm g.2.length) : vf F g = some (y7 g) := by
 unfold vf
 let p : Nat → Bool := fun i => decide (0 ≤ (g.2.getD i (0, 0)).1) && decide ((g.2.getD i (0, 0)).1 ≤ w64 (g.1 - 1)) && (decide (0 ≤ (g.2.getD i (0, 0)).2) && decide ((g.2.getD i (0, 0)).2 ≤ w64 (g.1 - 1))) && decide ((g.2.getD i (0, 0)).1 < (g.2.getD i (0, 0)).2) && (i == 0 || bef (g.2.getD (i - 1) (0, 0)) (g.2.getD i (0, 0)))
 rw [vv (L := fun k i => yK F g k i) (n := g.2.length) (p := p) (bad := some false) (fin := some (decide (0 ≤ g.1) && decide (g.1 ≤ 8))) ?_ ?_ F hF]
 · unfold y7
   by_cases h : 0 ≤ g.1 ∧ g.1 ≤ 8
   · have hw : w64 (g.1 - 1) = g.1 - 1 := xW (by omega) (by omega)
     rw [Kq (q := okE g.1 g.2)]
     · cases vC (okE g.1 g.2) g.2.length <;> simp [h.1, h.2]
     · intro i _
       simp only [p, okE, hw]
       generalize g.2.getD i (0, 0) = e
       generalize (i == 0 || bef (g.2.getD (i - 1) (0, 0)) e) = b
       rw [Bool.eq_iff_iff]
       simp only [Bool.and_eq_true, decide_eq_true_eq]
       constructor
       · rintro ⟨⟨⟨⟨a1, a2⟩, a3, a4⟩, a5⟩, a6⟩; exact ⟨⟨⟨a1, a5⟩, by omega⟩, a6⟩
       · rintro ⟨⟨⟨a1, a5⟩, a4⟩, a6⟩; exact ⟨⟨⟨⟨a1, by omega⟩, by omega, by omega⟩, a5⟩, a6⟩
   · have : (decide (0 ≤ g.1) && decide (g.1 ≤ 8)) = false := by
      rw [Bool.eq_false_iff]; intro h'; apply h; simpa using h'
     rw [this]; cases vC p g.2.length <;> rfl
 · intro k i hi
   simp only [yK, wW, Nj, Option.bind_some]
   rw [zX (d := (0, 0)) hi, z3 hi hl]
   have hlt : decide ((i : Int) < g.2.length) = true := by simp [hi]
   simp only [hlt, cond_true, Option.bind_some, p]
   generalize g.2.getD i (0, 0) = e
   generalize (decide (0 ≤ e.1) && decide (e.1 ≤ w64 (g.1 - 1))) = b1
   generalize (decide (0 ≤ e.2) && decide (e.2 ≤ w64 (g.1 - 1))) = b2
   cases b1
   · rfl
   cases b2
   · rfl
   by_cases h2 : e.1 ≥ e.2
   · have : ¬ e.1 < e.2 := by omega
     simp [h2, this]
   · have : e.1 < e.2 := by omega
     simp only [Bool.not_true, cond_false, h2, this, decide_true, decide_false, Bool.and_self, Bool.true_and]
     by_cases h5 : i = 0
     · subst h5; simp
     · have h6 : decide ((i : Int) > 0) = true := by simp; omega
       have h7 : (i == 0) = false := by simpa using h5
       rw [h6, cond_true, Uy (by omega) hi hl, zX (d := (0, 0)) (by omega), h7]
       simp only [Option.bind_some, Wn, Bool.false_or]
       cases bef (g.2.getD (i - 1) (0, 0)) e <;> rfl
 · intro k; simp [yK, Nj]
theorem z2 {g : Gr} (h : y7 g = true) : 0 ≤ g.1 ∧ g.1 ≤ 8 := by
 unfold y7 at h
 simp only [Bool.and_eq_true, decide_eq_true_eq] at h
 exact h.1
theorem Uv {F : Nat} {l : List Int} {n : Int} (hF : l.length < F) (hl : Sm l.length) : uS F l n = some (decide (n ∈ l)) := by
 unfold uS
 rw [vv (L := fun k i => uu F l n k i) (n := l.length) (p := fun i => !(l.getD i 0 == n)) (bad := some true) (fin := some false) ?_ ?_ F hF]
 · by_cases h : n ∈ l
   · have : vC (fun i => !(l.getD i 0 == n)) l.length = false := by
      rw [Bool.eq_false_iff]; intro h'
      obtain ⟨i, hi, e⟩ := List.mem_iff_getElem.1 h
      have := yI.1 h' i hi
      simp [List.getD_eq_getElem?_getD, hi, e] at this
     rw [this]; simp [h]
   · have : vC (fun i => !(l.getD i 0 == n)) l.length = true := by
      rw [yI]; intro i hi
      simp only [List.getD_eq_getElem?_getD, List.getElem?_eq_getElem hi, Option.getD_some, Bool.not_eq_true', beq_eq_false_iff_ne]
      intro e; exact h (e ▸ List.getElem_mem hi)
     rw [this]; simp [h]
 · intro k i hi
   simp only [uu]
   rw [zX (d := 0) hi, z3 hi hl]
   have hlt : decide ((i : Int) < l.length) = true := by simp [hi]
   simp only [hlt, cond_true, Option.bind_some]
   cases (l.getD i 0 == n) <;> rfl
 · intro k; simp [uu]
def xM (n : Int) (l : List Int) : Bool := decide ((l.length : Int) = n) && vC (fun j => decide ((j : Int) ∈ l)) n.toNat
theorem LM {F : Nat} {g : Gr} {l : List Int} (h0 : 0 ≤ g.1) (h8 : g.1 ≤ 8) (hF : l.length < F) (h9 : 9 ≤ F) (hl : Sm l.length) : Yi F g l = some (xM g.1 l) := by
 unfold Yi
 obtain ⟨n, hn⟩ : ∃ n : Nat, g.1 = n := ⟨g.1.toNat, by omega⟩
 rw [vv (L := fun k i => vK F l g k i) (n := n) (p := fun j => decide ((j : Int) ∈ l)) (bad := some false) (fin := some ((l.length : Int) == n)) ?_ ?_ F (by omega)]
 · unfold xM
   rw [hn]
   simp only [Int.toNat_natCast]
   cases vC (fun j => decide ((j : Int) ∈ l)) n <;> simp
   rfl
 · intro k i hi
   simp only [vK, Uv hF hl, hn]
   rw [z3 hi (by unfold Sm; omega)]
   have hlt : decide ((i : Int) < (n : Int)) = true := by simp [hi]
   simp only [hlt, cond_true, Option.bind_some]
   cases decide ((i : Int) ∈ l) <;> rfl
 · intro k; simp [vK, hn]
theorem N7 {F : Nat} {l : List Int} {lo hi : Int} (hF : l.length < F) (hl : Sm l.length) : wv F l lo hi = some (l.all fun x => decide (lo ≤ x) && decide (x ≤ hi)) := by
 unfold wv
 rw [vv (L := fun k i => xa F lo hi l k i) (n := l.length) (p := fun i => decide (lo ≤ l.getD i 0) && decide (l.getD i 0 ≤ hi)) (bad := some false) (fin := some true) ?_ ?_ F hF]
 · have : vC (fun i => decide (lo ≤ l.getD i 0) && decide (l.getD i 0 ≤ hi)) l.length = l.all fun x => decide (lo ≤ x) && decide (x ≤ hi) := by
    rw [Bool.eq_iff_iff, yI, List.all_eq_true]
    constructor
    · intro h x hx
      obtain ⟨i, hi, rfl⟩ := List.mem_iff_getElem.1 hx
      have := h i hi
      simpa [List.getD_eq_getElem?_getD, hi] using this
    · intro h i hi
      simpa [List.getD_eq_getElem?_getD, hi] using h l[i] (List.getElem_mem hi)
   rw [this]; cases (l.all fun x => decide (lo ≤ x) && decide (x ≤ hi)) <;> rfl
 · intro k i hi
   simp only [xa, JG]
   rw [zX (d := 0) hi, z3 hi hl]
   have hlt : decide ((i : Int) < l.length) = true := by simp [hi]
   simp only [hlt, cond_true, Option.bind_some]
   cases (decide (lo ≤ l.getD i 0) && decide (l.getD i 0 ≤ _)) <;> rfl
 · intro k; simp [xa]
theorem LZ {F : Nat} {l : List Int} (hF : l.length < F) (hl : Sm l.length) (h : ∀ x ∈ l, 0 ≤ x ∧ x ≤ 62) : ∃ m : Nat, ub F l = some (m : Int) ∧ zaJ m (fun j => decide ((j : Int) ∈ l)) := by
 unfold ub
 have key : ∃ s : Int, (∃ m : Nat, s = (m : Int) ∧ m < 9223372036854775808 ∧ ∀ j, m.testBit j = decide ((j : Int) ∈ l.take l.length)) ∧ wT F l F 0 0 = some s := by
  refine Exists.imp (fun s h => ⟨h.1, h.2.1⟩) (zdN (L := fun k i s => wT F l k s i) (n := l.length) (fun i s => ∃ m : Nat, s = (m : Int) ∧ m < 9223372036854775808 ∧ ∀ j, m.testBit j = decide ((j : Int) ∈ l.take i)) (fin := fun s => some s)
   (fun i s => ior .i64 s ((2 ^ (l.getD i 0).toNat : Nat) : Int)) ?_ ?_ ?_ F 0 hF ⟨0, rfl, by omega, by simp⟩)
  · rintro k i s hi ⟨m, rfl, hm1, hm2⟩
    simp only [wT]
    rw [zX (d := 0) hi, z3 hi hl]
    have hlt : decide ((i : Int) < l.length) = true := by simp [hi]
    simp only [hlt, cond_true, Option.bind_some]
    have hx := h (l.getD i 0) (by rw [List.getD_eq_getElem?_getD, List.getElem?_eq_getElem hi]; exact List.getElem_mem hi)
    obtain ⟨x, hx'⟩ : ∃ x : Nat, l.getD i 0 = x := ⟨(l.getD i 0).toNat, by omega⟩
    rw [hx', xY (by omega)]; simp
  · rintro i s hi ⟨m, rfl, hm1, hm2⟩
    have hx := h (l.getD i 0) (by rw [List.getD_eq_getElem?_getD, List.getElem?_eq_getElem hi]; exact List.getElem_mem hi)
    obtain ⟨x, hx'⟩ : ∃ x : Nat, l.getD i 0 = x := ⟨(l.getD i 0).toNat, by omega⟩
    rw [hx', Int.toNat_natCast, YK hm1 (uX (by omega))]
    refine ⟨_, rfl, Nat.or_lt_two_pow (n := 63) hm1 (uX (by omega)), fun j => ?_⟩
    rw [Nat.testBit_or, hm2, Nat.testBit_two_pow, List.take_add_one, List.getElem?_eq_getElem hi]
    have : l[i] = x := by rw [← hx', List.getD_eq_getElem?_getD, List.getElem?_eq_getElem hi]; rfl
    rw [Bool.eq_iff_iff]
    simp [this]
    constructor
    · rintro (h | h)
      · exact .inl h
      · exact .inr (by omega)
    · rintro (h | h)
      · exact .inl h
      · exact .inr (by omega)
  · rintro k s ⟨m, rfl, hm1, hm2⟩
    simp [wT]
 obtain ⟨s, ⟨m, rfl, hm1, hm2⟩, h2⟩ := key
 exact ⟨m, h2, hm1, by simpa using hm2⟩
theorem Ll {F : Nat} {g : Gr} {l : List Int} (h0 : 0 ≤ g.1) (h8 : g.1 ≤ 8) (hF : l.length < F) (hl : Sm l.length) : vS F g l = some (xM g.1 l) := by
 unfold vS xM
 obtain ⟨n, hn⟩ : ∃ n : Nat, g.1 = n := ⟨g.1.toNat, by omega⟩
 have hw : w64 (g.1 - 1) = g.1 - 1 := xW (by omega) (by omega)
 rw [N7 hF hl, hw, hn]
 by_cases e : l.length = n
 · have e' : ((l.length : Int) == (n : Int)) = true := by simp [e]
   simp only [e', cond_true, Option.bind_some, Int.toNat_natCast]
   by_cases ha : (l.all fun x => decide (0 ≤ x) && decide (x ≤ (n : Int) - 1)) = true
   · rw [ha, cond_true]
     have ha' : ∀ x ∈ l, 0 ≤ x ∧ x ≤ 62 := by
      intro x hx; have := List.all_eq_true.1 ha x hx; simp at this; omega
     obtain ⟨m, hm, hmask⟩ := LZ hF hl ha'
     rw [hm, Option.bind_some, xY (by omega), Option.bind_some]
     have hw2 : w64 (((2 ^ n : Nat) : Int) - 1) = ((2 ^ n - 1 : Nat) : Int) := by
      have := uX (j := n) (by omega)
      have : 0 < 2 ^ n := Nat.two_pow_pos n
      rw [xW (by omega) (by omega)]; omega
     rw [hw2]
     congr 1
     rw [Bool.eq_iff_iff]
     have hall := zbr (n := n) (by omega)
     simp only [beq_iff_eq, Bool.and_eq_true, decide_eq_true_eq, yI]
     constructor
     · intro h
       have h' : m = 2 ^ n - 1 := by omega
       refine ⟨by omega, fun j hj => ?_⟩
       have := hmask.2 j
       rw [h', hall.2] at this
       simpa [hj] using this.symm
     · rintro ⟨_, h⟩
       have : m = 2 ^ n - 1 := by
        apply Nat.eq_of_testBit_eq
        intro j
        rw [hmask.2, hall.2]
        by_cases hj : j < n
        · simp [hj, h j hj]
        · simp only [hj, decide_false, decide_eq_false_iff_not]
          intro hm'
          have := List.all_eq_true.1 ha _ hm'
          simp at this; omega
       rw [this]
   · rw [Bool.not_eq_true] at ha
     rw [ha, cond_false]
     congr 1
     symm
     rw [Bool.eq_false_iff]; intro h
     simp only [Bool.and_eq_true, decide_eq_true_eq, yI] at h
     have := (WO n l h.2).2 e
     have h2 : (l.all fun x => decide (0 ≤ x) && decide (x ≤ (n : Int) - 1)) = true := by
      rw [List.all_eq_true]; intro x hx; have := this x hx; simp; omega
     rw [ha] at h2; cases h2
 · have e' : ((l.length : Int) == (n : Int)) = false := by simp; omega
   have e2 : decide ((l.length : Int) = (n : Int)) = false := by simp; omega
   rw [e', e2]; simp
theorem zbl {F : Nat} {g : Gr} {l : List Int} (hF : l.length < F) (hG : g.2.length < F) (h9 : 9 ≤ F) (hl : Sm l.length) (hg : Sm g.2.length) : ut F g l = some (y7 g && xM g.1 l, y7 g) := by
 unfold ut vB
 rw [uB hG hg, Option.bind_some]
 cases h : y7 g with
 | false => rfl
 | true =>
   have := z2 h
   rw [LM this.1 this.2 hF h9 hl]; simp
theorem za2 {F : Nat} {g : Gr} {l : List Int} (hF : l.length < F) (hG : g.2.length < F) (h9 : 9 ≤ F) (hl : Sm l.length) (hg : Sm g.2.length) : vF F g l = some (y7 g && xM g.1 l, y7 g) := by
 unfold vF
 rw [vx hG (by omega) hg, Option.bind_some]
 cases h : y7 g with
 | false => rfl
 | true =>
   have := z2 h
   rw [Ll this.1 this.2 hF hl]; simp
end Go.Zq
namespace Go.Zq
theorem zb4 {F : Nat} {a b : Int} : uc F a b = some (max a b) := by
 unfold uc
 by_cases h : a > b
 · simp [h]; omega
 · simp [h]; omega
theorem zjB {n : Int} {es : List (Int × Int)} (h : vC (okE n es) es.length = true) {i : Nat} (hi : i < es.length) : 0 ≤ (es.getD i (0, 0)).1 ∧ (es.getD i (0, 0)).1 < (es.getD i (0, 0)).2 ∧ (es.getD i (0, 0)).2 < n := by
 have := yI.1 h i hi
 unfold okE at this
 simp only [Bool.and_eq_true, decide_eq_true_eq] at this
 exact ⟨this.1.1.1, this.1.1.2, this.1.2⟩
theorem Mz {g : Gr} (h : y7 g = true) {i : Nat} (hi : i < g.2.length) : 0 ≤ (g.2.getD i (0, 0)).1 ∧ (g.2.getD i (0, 0)).1 < (g.2.getD i (0, 0)).2 ∧ (g.2.getD i (0, 0)).2 < g.1 := by
 unfold y7 at h
 simp only [Bool.and_eq_true] at h
 exact zjB h.2 hi
theorem Jf {n : Int} {l : List Int} (h : xM n l = true) {x : Int} (h0 : 0 ≤ x) (hx : x < n) : x ∈ l := by
 unfold xM at h
 simp only [Bool.and_eq_true, yI, decide_eq_true_eq] at h
 have := h.2 x.toNat (by omega)
 rwa [Int.toNat_of_nonneg h0] at this
theorem uL {n : Int} {l : List Int} (h : xM n l = true) : (l.length : Int) = n := by
 unfold xM at h
 simp only [Bool.and_eq_true, decide_eq_true_eq] at h
 exact h.1
theorem U9 {α : Type} {xs : List α} {i j : Nat} {a d : α} (hi : i < xs.length) : (xs.set i a).getD j d = if i = j then a else xs.getD j d := by
 rw [List.getD_eq_getElem?_getD, List.getElem?_set, List.getD_eq_getElem?_getD]
 split
 · rename_i e; subst e; simp [hi]
 · rfl
end Go.Zq
namespace Go.Zq
def par (ps : List Int) (x : Int) : Int := ps.getD x.toNat (-1)
def ziH (ps : List Int) : Nat → Int → List Int
 | 0, _ => []
 | d + 1, x => if 0 ≤ par ps x then par ps x :: ziH ps d (par ps x) else []
def zrQ (n : Nat) (ps : List Int) (x : Int) : Bool := decide ((ziH ps (n + 1) x).length < n)
end Go.Zq
namespace Go.Zq
end Go.Zq
namespace Go.Zq
def mkm (p : Nat → Bool) : Nat → Nat
 | 0 => 0
 | n + 1 => mkm p n ||| (if p n then 2 ^ n else 0)
theorem xc {p : Nat → Bool} : ∀ (n j : Nat), (mkm p n).testBit j = (decide (j < n) && p j)
 | 0, j => by simp [mkm]
 | n + 1, j => by
   rw [mkm, Nat.testBit_or, xc n j]
   by_cases hp : p n = true
   · rw [if_pos hp, Nat.testBit_two_pow]
     by_cases e : n = j
     · subst e; simp [hp]
     · have h1 : decide (n = j) = false := by simpa using e
       have h2 : decide (j < n + 1) = decide (j < n) := by
        rw [Bool.eq_iff_iff]; simp; omega
       rw [h1, h2]; simp
   · rw [if_neg hp, Nat.zero_testBit]
     rw [Bool.not_eq_true] at hp
     by_cases e : n = j
     · subst e; simp [hp]
     · have h2 : decide (j < n + 1) = decide (j < n) := by
        rw [Bool.eq_iff_iff]; simp; omega
       rw [h2]; simp
theorem YX {p : Nat → Bool} {n : Nat} : mkm p n < 2 ^ n := by
 apply Nat.lt_pow_two_of_testBit
 intro j hj
 rw [xc]
 have : decide (j < n) = false := by simp; omega
 rw [this]; rfl
theorem Wz {p : Nat → Bool} {n : Nat} (h : n ≤ 62) : mkm p n < 9223372036854775808 := Nat.lt_trans YX (uX h)
theorem Jo {p q : Nat → Bool} {n : Nat} (h : ∀ j, j < n → p j = q j) : mkm p n = mkm q n := by
 apply Nat.eq_of_testBit_eq; intro j
 rw [xc, xc]
 by_cases hj : j < n
 · rw [h j hj]
 · simp [hj]
theorem XR {p : Nat → Bool} {n m : Nat} (hm : ∀ j, m.testBit j = (decide (j < n) && p j)) : m = mkm p n := by
 apply Nat.eq_of_testBit_eq; intro j; rw [hm, xc]
def Zl (g : Gr) (a b : Nat) (i : Nat) : Bool := ((g.2.getD i (0, 0)).1 == (a : Int) && (g.2.getD i (0, 0)).2 == (b : Int)) || ((g.2.getD i (0, 0)).1 == (b : Int) && (g.2.getD i (0, 0)).2 == (a : Int))
def adj (g : Gr) (a b : Nat) : Bool := xV (Zl g a b) g.2.length
theorem MT {g : Gr} (hg : y7 g = true) {a b : Nat} (h : adj g a b = true) : (a : Int) < g.1 ∧ (b : Int) < g.1 ∧ a ≠ b := by
 unfold adj at h
 obtain ⟨i, hi, h⟩ := Xh.1 h
 obtain ⟨e1, e2, e3⟩ := Mz hg hi
 unfold Zl at h
 simp only [Bool.or_eq_true, Bool.and_eq_true, beq_iff_eq] at h
 omega
theorem MM {F : Nat} {g : Gr} {a b : Nat} (hF : g.2.length < F) (hs : Sm g.2.length) : u7 F g (a : Int) (b : Int) = some (adj g a b) := by
 unfold u7
 rw [vv (L := fun k i => yL F (a : Int) (b : Int) g k i) (n := g.2.length) (p := fun i => !Zl g a b i) (bad := some true) (fin := some false) ?_ ?_ F hF]
 · unfold adj; rw [Km]; cases vC (fun i => !Zl g a b i) g.2.length <;> rfl
 · intro k i hi
   simp only [yL, wV]
   rw [zX (d := (0, 0)) hi, z3 hi hs]
   have hlt : decide ((i : Int) < g.2.length) = true := by simp [hi]
   rw [hlt, cond_true, Option.bind_some]
   unfold Zl
   generalize g.2.getD i (0, 0) = e
   generalize (e.1 == (a : Int)) = b1
   generalize (e.2 == (b : Int)) = b2
   generalize (e.1 == (b : Int)) = b3
   generalize (e.2 == (a : Int)) = b4
   cases b1 <;> cases b2 <;> cases b3 <;> cases b4 <;> rfl
 · intro k; simp [yL]
def yZ (g : Gr) : List Int := (List.range g.1.toNat).map fun x => ((mkm (adj g x) g.1.toNat : Nat) : Int)
theorem Z7 {g : Gr} : (yZ g).length = g.1.toNat := by simp [yZ]
theorem Mm {g : Gr} {x : Nat} (h : x < g.1.toNat) : (yZ g).getD x 0 = ((mkm (adj g x) g.1.toNat : Nat) : Int) := by
 simp [yZ, List.getD_eq_getElem?_getD, h]
theorem X5 {F : Nat} {g : Gr} (hg : y7 g = true) (hF : g.2.length < F) (hs : Sm g.2.length) : vp F g = some ⟨yZ g⟩ := by
 have h8 := z2 hg
 obtain ⟨n, hn⟩ : ∃ n : Nat, g.1 = n := ⟨g.1.toNat, by omega⟩
 unfold vp
 rw [hn, MP (by omega), Option.bind_some]
 refine xo (L := fun k i s => uv F g k s i) (n := g.2.length) (fun i w => w.length = n ∧ ∀ x, x < n → ∃ m : Nat, w.getD x 0 = (m : Int) ∧ zaJ m (fun j => xV (Zl g x j) i)) ?_ ?_ F _ hF ?_
 · intro k i w hi ⟨hl, hw⟩
   obtain ⟨e1, e2, e3⟩ := Mz hg hi
   simp only [uv]
   rw [zX (d := (0, 0)) hi, z3 hi hs]
   have hlt : decide ((i : Int) < g.2.length) = true := by simp [hi]
   rw [hlt, cond_true, Option.bind_some]
   obtain ⟨a, ha⟩ : ∃ a : Nat, (g.2.getD i (0, 0)).1 = a := ⟨(g.2.getD i (0, 0)).1.toNat, by omega⟩
   obtain ⟨b, hb⟩ : ∃ b : Nat, (g.2.getD i (0, 0)).2 = b := ⟨(g.2.getD i (0, 0)).2.toNat, by omega⟩
   have hj : ∀ x j, Zl g x j i = ((x == a && j == b) || (x == b && j == a)) := by
    intro x j
    unfold Zl
    rw [ha, hb, Bool.eq_iff_iff]
    simp
    omega
   rw [ha] at e1 e2 ⊢
   rw [hb] at e2 e3 ⊢
   obtain ⟨ma, hma, hma2⟩ := hw a (by omega)
   obtain ⟨mb, hmb, hmb2⟩ := hw b (by omega)
   have ia : idx w (a : Int) = some (ma : Int) := by rw [zX (d := 0) (by omega), hma]
   rw [ia, Option.bind_some, xY (by omega), Option.bind_some, Option.bind_some, YK hma2.1 (uX (by omega)), Int.toNat_natCast]
   have ib : idx (w.set a ((ma ||| 2 ^ b : Nat) : Int)) (b : Int) = some (mb : Int) := by
    rw [zX (d := 0) (by simp; omega), U9 (by omega), if_neg (by omega), hmb]
   rw [ib, Option.bind_some, xY (by omega), Option.bind_some, Option.bind_some, YK hmb2.1 (uX (by omega)), Int.toNat_natCast]
   refine ⟨_, ⟨by simp [hl], ?_⟩, rfl⟩
   intro x hx
   rw [U9 (by simp; omega), U9 (by omega)]
   by_cases exb : b = x
   · subst exb
     rw [if_pos rfl]
     refine ⟨_, rfl, Nat.or_lt_two_pow (n := 63) hmb2.1 (uX (by omega)), fun j => ?_⟩
     rw [Nat.testBit_or, hmb2.2, Nat.testBit_two_pow]
     show (xV (Zl g b j) i || decide (a = j)) = (xV (Zl g b j) i || Zl g b j i)
     rw [hj]
     congr 1
     rw [Bool.eq_iff_iff]; simp; omega
   · rw [if_neg exb]
     by_cases exa : a = x
     · subst exa
       rw [if_pos rfl]
       refine ⟨_, rfl, Nat.or_lt_two_pow (n := 63) hma2.1 (uX (by omega)), fun j => ?_⟩
       rw [Nat.testBit_or, hma2.2, Nat.testBit_two_pow]
       show (xV (Zl g a j) i || decide (b = j)) = (xV (Zl g a j) i || Zl g a j i)
       rw [hj]
       congr 1
       rw [Bool.eq_iff_iff]; simp; omega
     · rw [if_neg exa]
       obtain ⟨m, h1, h2⟩ := hw x hx
       refine ⟨m, h1, h2.1, fun j => ?_⟩
       rw [h2.2]
       show xV (Zl g x j) i = (xV (Zl g x j) i || Zl g x j i)
       have : Zl g x j i = false := by
        rw [hj, Bool.eq_false_iff]; intro h; simp at h; omega
       rw [this, Bool.or_false]
 · intro k w ⟨hl, hw⟩
   simp only [uv]
   have hlt : decide ((g.2.length : Int) < g.2.length) = false := by simp
   rw [hlt, cond_false]
   have : w = yZ g := by
    apply List.ext_getElem (by rw [hl, Z7, hn]; simp)
    intro x h1 h2
    obtain ⟨m, h3, h4⟩ := hw x (by omega)
    have h5 := Mm (g := g) (x := x) (by rw [Z7] at h2; exact h2)
    rw [List.getD_eq_getElem?_getD, List.getElem?_eq_getElem h1] at h3
    rw [List.getD_eq_getElem?_getD, List.getElem?_eq_getElem h2] at h5
    simp at h3 h5
    rw [h3, h5]
    congr 1
    refine XR fun j => ?_
    rw [h4.2, hn, Int.toNat_natCast]
    by_cases hj : j < n
    · simp [hj, adj]
    · have : adj g x j = false := by
       rw [Bool.eq_false_iff]; intro h; have := MT hg h; omega
      simp only [hj, decide_false, Bool.false_and]; exact this
   rw [this]
 · refine ⟨by simp, fun x hx => ⟨0, by simp [List.getD_eq_getElem?_getD, hx], by omega, fun j => by simp [xV]⟩⟩
def yD (p : Nat → Bool) (n : Nat) : Nat := (List.range n).countP p
theorem vT {p q : Nat → Bool} {n : Nat} (h : ∀ j, j < n → p j = q j) : yD p n = yD q n := by
 unfold yD
 apply List.countP_congr
 intro x hx
 rw [h x (by simpa using hx)]
def XE (m : Nat) : Nat := yD m.testBit 8
theorem zep : ∀ m : Nat, m < 256 → xt 0 (Kd.mk (IntKind.u64.wrap (m : Int)) : Kd .u64) = some (XE m : Int) := by decide +kernel
theorem M7 {F m : Nat} (h : m < 256) : xt F (Kd.mk (IntKind.u64.wrap (m : Int)) : Kd .u64) = some (XE m : Int) := zep m h
theorem Xk {p : Nat → Bool} {n : Nat} (hn : n ≤ 8) : XE (mkm p n) = yD p n := by
 unfold XE
 have h1 : yD (mkm p n).testBit 8 = yD (fun j => decide (j < n) && p j) 8 := vT fun j _ => xc n j
 rw [h1]
 unfold yD
 have : List.range 8 = List.range n ++ (List.range (8 - n)).map (n + ·) := by
  have := @List.range_add n (8 - n)
  rwa [show n + (8 - n) = 8 by omega] at this
 rw [this, List.countP_append]
 have h2 : ((List.range (8 - n)).map (n + ·)).countP (fun j => decide (j < n) && p j) = 0 := by
  rw [List.countP_eq_zero]
  intro x hx
  simp at hx
  obtain ⟨y, _, rfl⟩ := hx
  have : ¬ n + y < n := by omega
  simp only [this, decide_false, Bool.false_and, Bool.false_eq_true, not_false_eq_true]
 rw [h2, Nat.add_zero]
 apply List.countP_congr
 intro x hx
 simp at hx
 simp [hx]
theorem zbI {p : Nat → Bool} {n : Nat} (hn : n ≤ 8) : mkm p n < 256 := by
 have := YX (p := p) (n := n)
 have := Nat.pow_le_pow_right (n := 2) (by decide) hn
 omega
end Go.Zq
namespace Go.Zq
def zL (p : Nat → Bool) (n : Nat) : List Int := ((List.range n).filter p).map fun (j : Nat) => (j : Int)
theorem yN {p : Nat → Bool} {n : Nat} : (zL p n).length = yD p n := by
 simp [zL, yD, List.countP_eq_length_filter]
theorem ZB {p : Nat → Bool} {n : Nat} : zL p (n + 1) = zL p n ++ (if p n then [(n : Int)] else []) := by
 simp only [zL, List.range_succ, List.filter_append, List.map_append]
 by_cases h : p n = true
 · simp [h]
 · rw [Bool.not_eq_true] at h; simp [h]
theorem xg {p q : Nat → Bool} {n : Nat} (h : ∀ j, j < n → p j = q j) : zL p n = zL q n := by
 unfold zL
 congr 1
 apply List.filter_congr
 intro x hx
 exact h x (by simpa using hx)
theorem Ze {p : Nat → Bool} {n : Nat} : yD p n ≤ n := by
 have := List.countP_le_length (p := p) (l := List.range n)
 unfold yD; simpa using this
end Go.Zq
namespace Go.Zq
theorem Mj : ∀ (n : Nat) (l : List Int), l.Nodup → (∀ x ∈ l, 0 ≤ x ∧ x < n) → yD (fun j => decide ((j : Int) ∈ l)) n = l.length
 | 0, l, _, h => by
   cases l with
   | nil => rfl
   | cons x l => have := h x (by simp); omega
 | n + 1, l, hn, h => by
   have hs : ∀ x ∈ l.erase (n : Int), 0 ≤ x ∧ x < n := by
    intro x hx
    have h1 := (hn.mem_erase_iff).1 hx
    have := h x h1.2
    omega
   have ih := Mj n (l.erase (n : Int)) (hn.erase _) hs
   have hc : yD (fun j => decide ((j : Int) ∈ l.erase (n : Int))) n = yD (fun j => decide ((j : Int) ∈ l)) n := by
    apply vT
    intro j hj
    rw [Bool.eq_iff_iff]
    simp only [decide_eq_true_eq]
    rw [List.mem_erase_of_ne (by omega)]
   rw [hc] at ih
   unfold yD at *
   rw [List.range_succ, List.countP_append, ih]
   by_cases hm : (n : Int) ∈ l
   · rw [List.length_erase_of_mem hm]
     have := List.length_pos_of_mem hm
     simp [hm]; omega
   · rw [List.erase_of_not_mem hm]
     simp [hm]
def Srt (l : List Int) : Prop := l.Pairwise (· < ·)
theorem zb3 : ∀ (a b : List Int), Srt a → Srt b → (∀ y, y ∈ a ↔ y ∈ b) → a = b
 | [], [], _, _, _ => rfl
 | [], y :: b, _, _, h => by have := (h y).2 (by simp); cases this
 | x :: a, [], _, _, h => by have := (h x).1 (by simp); cases this
 | x :: a, y :: b, ha, hb, h => by
   unfold Srt at ha hb
   rw [List.pairwise_cons] at ha hb
   have e : x = y := by
    have h1 := (h x).1 (by simp)
    have h2 := (h y).2 (by simp)
    rcases List.mem_cons.1 h1 with e | h1
    · exact e
    · rcases List.mem_cons.1 h2 with e | h2
      · exact e.symm
      · have := ha.1 y h2; have := hb.1 x h1; omega
   subst e
   congr 1
   refine zb3 a b ha.2 hb.2 fun y => ?_
   have := h y
   simp only [List.mem_cons] at this
   constructor
   · intro hy
     rcases this.1 (.inr hy) with e | h'
     · have := ha.1 y hy; omega
     · exact h'
   · intro hy
     rcases this.2 (.inr hy) with e | h'
     · have := hb.1 y hy; omega
     · exact h'
theorem wd {p : Nat → Bool} {n : Nat} {y : Int} : y ∈ zL p n ↔ ∃ j : Nat, y = j ∧ j < n ∧ p j = true := by
 unfold zL
 simp only [List.mem_map, List.mem_filter, List.mem_range]
 constructor
 · rintro ⟨j, ⟨h1, h2⟩, rfl⟩; exact ⟨j, rfl, h1, h2⟩
 · rintro ⟨j, rfl, h1, h2⟩; exact ⟨j, ⟨h1, h2⟩, rfl⟩
theorem WH {p : Nat → Bool} {n : Nat} : Srt (zL p n) := by
 unfold Srt zL
 rw [List.pairwise_map]
 have h1 : (List.range n).Pairwise (· < ·) := List.pairwise_lt_range
 exact (List.Pairwise.filter _ h1).imp fun h => by omega
theorem LC {l : List Int} {p : Nat → Bool} {n : Nat} (h : Srt l) (hm : ∀ y, y ∈ l ↔ ∃ j : Nat, y = j ∧ j < n ∧ p j = true) : l = zL p n :=
 zb3 _ _ h WH fun y => (hm y).trans wd.symm
end Go.Zq
namespace Go.Zq
def Lv (f : Nat → Nat) : Nat → Nat
 | 0 => 0
 | n + 1 => Lv f n + f n
theorem LJ {f g : Nat → Nat} : ∀ {n : Nat}, (∀ i, i < n → f i = g i) → Lv f n = Lv g n
 | 0, _ => rfl
 | n + 1, h => by simp only [Lv]; rw [LJ (n := n) (fun i hi => h i (by omega)), h n (by omega)]
theorem zbW {f g : Nat → Nat} : ∀ {n : Nat}, Lv (fun i => f i + g i) n = Lv f n + Lv g n
 | 0 => rfl
 | n + 1 => by simp only [Lv]; rw [zbW (n := n)]; omega
theorem ZG {p : Nat → Bool} : ∀ {n : Nat}, yD p n = Lv (fun j => if p j then 1 else 0) n
 | 0 => rfl
 | n + 1 => by
   have : yD p (n + 1) = yD p n + (if p n then 1 else 0) := by
    unfold yD
    rw [List.range_succ, List.countP_append]
    by_cases h : p n = true <;> simp [h]
   rw [this, ZG (n := n)]; rfl
theorem KZ {m i : Nat} (hi : i ≤ 64) : Z6 .i64 (m : Int) (i : Int) = some ((m / 2 ^ i : Nat) : Int) := by
 rw [zbU, Nat.min_eq_left hi]
theorem UW {F n : Nat} {p : Nat → Bool} (hn : n ≤ 8) (hF : 20 ≤ F) : uk F ((mkm p n : Nat) : Int) = some (zL p n) := by
 have key : ∀ d k i (l : NL Int), i + d = n → d < k → l.list = zL p i → xS F ((mkm p n : Nat) : Int) k l (i : Int) = some (zL p n) := by
  intro d
  induction d with
  | zero =>
    intro k i l hi hk hl
    obtain ⟨k, rfl⟩ : ∃ k', k = k' + 1 := ⟨k - 1, by omega⟩
    obtain rfl : i = n := by omega
    simp only [xS]
    rw [KZ (by omega), Option.bind_some, Nat.div_eq_of_lt YX, hl]; rfl
  | succ d ih =>
    intro k i l hi hk hl
    obtain ⟨k, rfl⟩ : ∃ k', k = k' + 1 := ⟨k - 1, by omega⟩
    simp only [xS, Zt]
    rw [KZ (by omega), Option.bind_some]
    have hw : w64 ((i : Int) + 1) = ((i + 1 : Nat) : Int) := z3 (n := n) (by omega) (by unfold Sm; omega)
    by_cases hz : mkm p n / 2 ^ i = 0
    · have : (((mkm p n / 2 ^ i : Nat) : Int) != 0) = false := by rw [hz]; rfl
      rw [this, cond_false, hl]
      have hlt : mkm p n < 2 ^ i := by
       rcases Nat.div_eq_zero_iff.1 hz with h | h
       · have := Nat.two_pow_pos i; omega
       · exact h
      have hp : ∀ j, i ≤ j → j < n → p j = false := by
       intro j h1 h2
       have hb := xc (p := p) n j
       have : (mkm p n).testBit j = false := Nat.testBit_lt_two_pow (Nat.lt_of_lt_of_le hlt (Nat.pow_le_pow_right (by decide) h1))
       rw [this] at hb
       simpa [h2] using hb.symm
      have : ∀ e, i + e ≤ n → zL p (i + e) = zL p i := by
       intro e
       induction e with
       | zero => intro _; rfl
       | succ e ihe => intro he; rw [show i + (e + 1) = (i + e) + 1 by omega, ZB, hp (i + e) (by omega) (by omega), ihe (by omega)]; simp
      have h3 := this (n - i) (by omega)
      rw [show i + (n - i) = n by omega] at h3
      rw [h3]
    · have : (((mkm p n / 2 ^ i : Nat) : Int) != 0) = true := by
       rw [bne_iff_ne]; intro h; exact hz (by exact_mod_cast h)
      rw [this, cond_true]
      obtain ⟨q, hq, hq1, _⟩ := za1 (m := mkm p n) (j := i) (Wz (by omega)) (by omega)
      have hd : decide (i < n) = true := decide_eq_true (by omega)
      have hq' : ((mkm p n / 2 ^ i : Nat) : Int) = q := Option.some.inj (by rw [← KZ (by omega), hq])
      rw [Option.bind_some, hq', hq1, xc, hd, Bool.true_and, hw]
      have hc := Ze (p := p) (n := i)
      have hs := ZB (p := p) (n := i)
      cases hp : p i with
      | true =>
        rw [cond_true, hl, YA (by rw [yN]; omega), Option.bind_some]
        refine ih k (i + 1) _ (by omega) (by omega) ?_
        rw [hs, hp]; rfl
      | false =>
        rw [cond_false]
        refine ih k (i + 1) _ (by omega) (by omega) ?_
        rw [hs, hp, hl]; simp
 unfold uk
 exact key n F 0 .nil (by omega) (by omega) rfl
/-! the number of edges that leave a set, counted by edges and by nodes -/
def xz (l : List Int) (i : Nat) (j : Nat) : Bool := decide ((j : Int) ∈ l.take i)
theorem Yo {l : List Int} {i x : Nat} (hi : i < l.length) (hx : l.getD i 0 = (x : Int)) : ∀ j, xz l (i + 1) j = (xz l i j || j == x) := by
 intro j
 unfold xz
 rw [List.take_add_one, List.getElem?_eq_getElem hi, Bool.eq_iff_iff]
 have : l[i] = (x : Int) := by rw [← hx, List.getD_eq_getElem?_getD, List.getElem?_eq_getElem hi]; rfl
 have h2 : ((j : Int) = (x : Int)) ↔ j = x := by omega
 simp [this, h2]
end Go.Zq
namespace Go.Zq
theorem WZ {p : Nat → Bool} {n i : Nat} (hi : i < (zL p n).length) : ∃ j : Nat, (zL p n).getD i 0 = j ∧ j < n ∧ p j = true := wd.1 (ue hi)
theorem zeL {l : List Int} (h : Srt l) {i j : Nat} (hij : i < j) (hj : j < l.length) : l.getD i 0 < l.getD j 0 := by
 have := List.pairwise_iff_getElem.1 h i j (by omega) hj hij
 rw [List.getD_eq_getElem?_getD, List.getElem?_eq_getElem (by omega), List.getD_eq_getElem?_getD, List.getElem?_eq_getElem hj]
 exact this
def wj (l : List Int) (x : Int) : Nat := l.findIdx fun y => !decide (y < x)
theorem zae {l : List Int} {x : Int} {j : Nat} (hj : j < wj l x) (hl : j < l.length) : l.getD j 0 < x := by
 have := List.not_of_lt_findIdx (p := fun y => !decide (y < x)) (xs := l) hj
 rw [List.getD_eq_getElem?_getD, List.getElem?_eq_getElem hl]
 simpa using this
theorem Q1 {l : List Int} {x : Int} (h : wj l x < l.length) : ¬ l.getD (wj l x) 0 < x := by
 have := List.findIdx_getElem (p := fun y => !decide (y < x)) (xs := l) (w := h)
 rw [List.getD_eq_getElem?_getD, List.getElem?_eq_getElem h]
 intro hlt
 simp only [Option.getD_some] at hlt
 have e : l[List.findIdx (fun y => !decide (y < x)) l] < x := hlt
 rw [decide_eq_true e] at this
 cases this
theorem zgq {l : List Int} {x : Int} : wj l x ≤ l.length := List.findIdx_le_length
theorem zax {α : Type} {xs : List α} {i : Nat} (h : i ≤ xs.length) : sub xs (i : Int) (xs.length : Int) = some (xs.drop i) := by
 unfold sub
 rw [if_pos ⟨by omega, by omega, by omega⟩]
 simp only [Int.toNat_natCast]
 rw [List.take_of_length_le (by simp)]
theorem Mc {α : Type} {xs : List α} {i : Nat} (h : i ≤ xs.length) : sub xs 0 (i : Int) = some (xs.take i) := by
 unfold sub
 rw [if_pos ⟨by omega, by omega, by omega⟩]
 simp
theorem Kv {α : Type} {xs ys : List α} (h : xs.length + ys.length ≤ 1099511627776) : wM xs ys = some (xs ++ ys) := by
 unfold wM
 rw [if_pos]
 have : (2 : Nat) ^ 40 = 1099511627776 := by decide
 omega
def zd5 (l : List Int) (x : Int) : List Int := if wj l x < l.length ∧ l.getD (wj l x) 0 = x then l else l.take (wj l x) ++ [x] ++ l.drop (wj l x)
theorem zg5 {F : Nat} {l : List Int} {x : Int} (hF : l.length < F) (hl : l.length ≤ 1000) : YV F l x = some (zd5 l x) := by
 unfold YV
 have hle := zgq (l := l) (x := x)
 refine zcP (L := fun k i => wH F l x k i) (n := wj l x) ?_ ?_ F (by omega)
 · intro k i hi
   simp only [wH, Zr]
   have hlt : decide ((i : Int) < (l.length : Int)) = true := decide_eq_true (by omega)
   have hx := zae hi (by omega)
   rw [hlt, cond_true, zX (d := 0) (by omega), Option.bind_some, decide_eq_true hx, cond_true, z3 hi (by unfold Sm; omega)]
 · intro k
   have hfin : Zs F l x (wj l x : Int) false = some (l.take (wj l x) ++ [x] ++ l.drop (wj l x)) := by
    unfold Zs
    rw [cond_false, Mc hle, Option.bind_some, Kv (by simp; omega), Option.bind_some, Kv (by simp; omega), Option.bind_some, zax hle, Option.bind_some, Kv (by simp; omega), Option.bind_some]
    simp
   unfold zd5
   simp only [wH, Zr]
   by_cases h : wj l x < l.length
   · have hlt : decide ((wj l x : Int) < (l.length : Int)) = true := decide_eq_true (by omega)
     have hx := Q1 h
     rw [hlt, cond_true, zX (d := 0) h, Option.bind_some, decide_eq_false hx, cond_false, cond_true, Option.bind_some]
     by_cases e : l.getD (wj l x) 0 = x
     · have : (l.getD (wj l x) 0 == x) = true := by simpa using e
       rw [this, if_pos ⟨h, e⟩]; rfl
     · have : (l.getD (wj l x) 0 == x) = false := by rw [beq_eq_false_iff_ne]; exact e
       rw [this, if_neg (fun h => e h.2)]; exact hfin
   · have hlt : decide ((wj l x : Int) < (l.length : Int)) = false := decide_eq_false (by omega)
     rw [hlt, cond_false, cond_false, cond_false, if_neg (fun h' => h h'.1)]; exact hfin
theorem zfx {l : List Int} {x y : Int} : y ∈ zd5 l x ↔ y ∈ l ∨ y = x := by
 unfold zd5
 split
 · rename_i h
   constructor
   · exact .inl
   · rintro (h' | h')
     · exact h'
     · rw [h', ← h.2]; exact ue h.1
 · have : y ∈ l ↔ y ∈ l.take (wj l x) ∨ y ∈ l.drop (wj l x) := by
    rw [← List.mem_append, List.take_append_drop]
   rw [this]
   simp only [List.mem_append, List.mem_singleton]
   constructor
   · rintro ((h | h) | h)
     · exact .inl (.inl h)
     · exact .inr h
     · exact .inl (.inr h)
   · rintro ((h | h) | h)
     · exact .inl (.inl h)
     · exact .inr h
     · exact .inl (.inr h)
theorem zfo {l : List Int} {x : Int} (h : Srt l) : Srt (zd5 l x) := by
 unfold zd5
 split
 · exact h
 · rename_i hn
   have ht : ∀ y ∈ l.take (wj l x), y < x := by
    intro y hy
    obtain ⟨i, hi, rfl⟩ := List.mem_iff_getElem.1 hy
    have hi' : i < wj l x ∧ i < l.length := by simp at hi; omega
    have := zae hi'.1 hi'.2
    rw [List.getD_eq_getElem?_getD, List.getElem?_eq_getElem hi'.2] at this
    simpa using this
   have hd : ∀ y ∈ l.drop (wj l x), x < y := by
    intro y hy
    obtain ⟨i, hi, rfl⟩ := List.mem_iff_getElem.1 hy
    have hi' : wj l x + i < l.length := by simp at hi; omega
    have h1 := Q1 (l := l) (x := x) (by omega)
    have h2 : l.getD (wj l x) 0 ≠ x := fun e => hn ⟨by omega, e⟩
    have h3 : l.getD (wj l x) 0 ≤ l.getD (wj l x + i) 0 := by
     by_cases e : i = 0
     · subst e; exact Int.le_refl _
     · exact Int.le_of_lt (zeL h (by omega) hi')
    have h4 : l.getD (wj l x + i) 0 = (l.drop (wj l x))[i] := by
     rw [List.getElem_drop, List.getD_eq_getElem?_getD, List.getElem?_eq_getElem hi']; rfl
    omega
   unfold Srt at h ⊢
   have h0 : (l.take (wj l x) ++ l.drop (wj l x)).Pairwise (· < ·) := by rw [List.take_append_drop]; exact h
   rw [List.pairwise_append] at h0
   rw [List.append_assoc, List.pairwise_append]
   refine ⟨h0.1, ?_, ?_⟩
   · rw [List.singleton_append, List.pairwise_cons]
     exact ⟨hd, h0.2.1⟩
   · intro a ha b hb
     rw [List.singleton_append, List.mem_cons] at hb
     rcases hb with rfl | hb
     · exact ht a ha
     · exact h0.2.2 a ha b hb
theorem zec {F n x : Nat} {p : Nat → Bool} (hn : n ≤ 8) (hx : x < n) (hF : 20 ≤ F) : YV F (zL p n) (x : Int) = some (zL (fun j => p j || j == x) n) := by
 have hc := Ze (p := p) (n := n)
 rw [zg5 (by rw [yN]; omega) (by rw [yN]; omega)]
 congr 1
 refine LC (zfo WH) fun y => ?_
 rw [zfx, wd]
 constructor
 · rintro (⟨j, rfl, h1, h2⟩ | rfl)
   · exact ⟨j, rfl, h1, by simp [h2]⟩
   · exact ⟨x, rfl, hx, by simp⟩
 · rintro ⟨j, rfl, h1, h2⟩
   simp only [Bool.or_eq_true, beq_iff_eq] at h2
   rcases h2 with h2 | h2
   · exact .inl ⟨j, rfl, h1, h2⟩
   · exact .inr (by omega)
theorem zd2 {F n : Nat} {p : Nat → Bool} {x : Nat} (hn : n ≤ 8) (hx : x < n) (hF : 20 ≤ F) : uS F (zL p n) (x : Int) = some (p x) := by
 have hc := Ze (p := p) (n := n)
 rw [Uv (by rw [yN]; omega) (by rw [yN]; unfold Sm; omega)]
 congr 1
 rw [Bool.eq_iff_iff, decide_eq_true_eq, wd]
 constructor
 · rintro ⟨j, h1, _, h3⟩; obtain rfl : x = j := by omega
   exact h3
 · exact fun h => ⟨x, rfl, hx, h⟩
theorem zbQ {F n code : Nat} (hn : n ≤ 8) (hc : code < 9223372036854775808) (hF : 20 ≤ F) : ZM F (n : Int) (code : Int) = some (zL code.testBit n) := by
 unfold ZM
 refine xo (L := fun k i s => wa F (n : Int) (code : Int) k s i) (n := n) (fun i s => s = zL code.testBit i) ?_ ?_ F _ (by omega) rfl
 · intro k i s hi hI
   subst hI
   refine ⟨_, rfl, ?_⟩
   simp only [wa, ZJ]
   have hlt : decide ((i : Int) < (n : Int)) = true := decide_eq_true (by omega)
   obtain ⟨q, hq, hq1, _⟩ := za1 (m := code) (j := i) hc (by omega)
   have hcl := Ze (p := code.testBit) (n := i)
   rw [hlt, cond_true, hq, Option.bind_some, hq1, z3 hi (by unfold Sm; omega), ZB]
   cases code.testBit i with
   | true => rw [cond_true, YA (by rw [yN]; omega), Option.bind_some]; rfl
   | false => rw [cond_false]; simp
 · intro k s hI
   subst hI
   simp only [wa]
   have hlt : decide ((n : Int) < (n : Int)) = false := decide_eq_false (by omega)
   rw [hlt, cond_false]
theorem zg3 {p : Nat → Bool} {n : Nat} : mkm p (n + 1) = mkm p n + (if p n then 2 ^ n else 0) := by
 by_cases h : p n = true
 · rw [if_pos h]
   have hlt := YX (p := p) (n := n)
   have : mkm p n + 2 ^ n = 2 ^ n * 1 + mkm p n := by omega
   rw [this, Nat.two_pow_add_eq_or_of_lt hlt 1]
   rw [mkm, if_pos h, Nat.or_comm, Nat.mul_one]
 · rw [if_neg h, mkm, if_neg h]; simp
end Go.Zq
namespace Go.Zq
def stp (g : Gr) (p q : Nat → Bool) (j : Nat) : Bool := q j || (p j && xV (fun y => q y && adj g y j) g.1.toNat)
def rch (g : Gr) (p : Nat → Bool) (x : Nat) : Nat → Nat → Bool
 | 0 => fun j => j == x
 | t + 1 => stp g p (rch g p x t)
def QK (g : Gr) (p : Nat → Bool) (x : Nat) : Nat → Bool := rch g p x g.1.toNat
theorem WJ {g : Gr} {p q : Nat → Bool} {j : Nat} : stp g p q j = true ↔ q j = true ∨ (p j = true ∧ ∃ y, y < g.1.toNat ∧ q y = true ∧ adj g y j = true) := by
 unfold stp
 rw [Bool.or_eq_true, Bool.and_eq_true, Xh]
 constructor
 · rintro (h | ⟨h, y, h1, h2⟩)
   · exact .inl h
   · rw [Bool.and_eq_true] at h2; exact .inr ⟨h, y, h1, h2.1, h2.2⟩
 · rintro (h | ⟨h, y, h1, h2, h3⟩)
   · exact .inl h
   · exact .inr ⟨h, y, h1, by rw [h2, h3]; rfl⟩
theorem Qt {g : Gr} {p : Nat → Bool} {x t j : Nat} (h : rch g p x t j = true) : ∀ s, t ≤ s → rch g p x s j = true := by
 intro s hs
 induction s with
 | zero => obtain rfl : t = 0 := by omega
           exact h
 | succ s ih =>
   by_cases e : t = s + 1
   · subst e; exact h
   · exact WJ.2 (.inl (ih (by omega)))
theorem zbu {g : Gr} {p : Nat → Bool} {x : Nat} (hx : p x = true) : ∀ t j, rch g p x t j = true → p j = true
 | 0, j, h => by
   have : j = x := by simpa [rch] using h
   subst this; exact hx
 | t + 1, j, h => by
   rcases WJ.1 h with h | h
   · exact zbu hx t j h
   · exact h.1
theorem zaP {g : Gr} (hg : y7 g = true) {p : Nat → Bool} {x : Nat} (hx : x < g.1.toNat) : ∀ t j, rch g p x t j = true → j < g.1.toNat
 | 0, j, h => by
   have : j = x := by simpa [rch] using h
   subst this; exact hx
 | t + 1, j, h => by
   rcases WJ.1 h with h | ⟨_, y, _, _, h⟩
   · exact zaP hg hx t j h
   · have := MT hg h
     have := z2 hg
     omega
theorem NY {p q : Nat → Bool} : ∀ {n : Nat}, (∀ j, j < n → p j = true → q j = true) → (∃ j, j < n ∧ p j = false ∧ q j = true) → yD p n + 1 ≤ yD q n
 | 0, _, ⟨_, h, _⟩ => by omega
 | n + 1, h, ⟨j, hj, h1, h2⟩ => by
   rw [ZG, ZG]
   simp only [Lv]
   rw [← ZG, ← ZG]
   by_cases e : j = n
   · subst e
     have hle : yD p j ≤ yD q j := by
      unfold yD
      apply List.countP_mono_left
      intro x hx
      exact h x (by have := List.mem_range.1 hx; omega)
     rw [h1, h2]; simp; omega
   · have ih := NY (p := p) (q := q) (n := n) (fun j hj => h j (by omega)) ⟨j, by omega, h1, h2⟩
     have hn := h n (by omega)
     by_cases hp : p n = true
     · rw [hp, hn hp]; simp; omega
     · rw [Bool.not_eq_true] at hp; rw [hp]; simp; omega
theorem zaH {p q : Nat → Bool} {n : Nat} (h : ∀ j, j < n → p j = true → q j = true) : yD p n ≤ yD q n := by
 unfold yD
 apply List.countP_mono_left
 intro x hx
 exact h x (List.mem_range.1 hx)
theorem KK {g : Gr} {p : Nat → Bool} {x t : Nat} (h : ∀ j, rch g p x (t + 1) j = true → rch g p x t j = true) : ∀ s j, rch g p x (t + s) j = true → rch g p x t j = true
 | 0, j, hj => hj
 | s + 1, j, hj => by
   rcases WJ.1 (show stp g p (rch g p x (t + s)) j = true from hj) with h1 | ⟨h1, y, hy, h2, h3⟩
   · exact KK h s j h1
   · exact h j (WJ.2 (.inr ⟨h1, y, hy, KK h s y h2, h3⟩))
theorem zbb {g : Gr} (hg : y7 g = true) {p : Nat → Bool} {x : Nat} (hx : x < g.1.toNat) (hp : p x = true) : ∃ t, t < yD p g.1.toNat ∧ ∀ j, rch g p x (t + 1) j = true → rch g p x t j = true := by
 apply Classical.byContradiction
 intro hne
 have hstep : ∀ t, t < yD p g.1.toNat → ∃ j, rch g p x (t + 1) j = true ∧ rch g p x t j = false := by
  intro t ht
  apply Classical.byContradiction
  intro hno
  apply hne
  refine ⟨t, ht, fun j hj => ?_⟩
  cases h : rch g p x t j with
  | true => rfl
  | false => exact absurd ⟨j, hj, h⟩ hno
 have hgrow : ∀ t, t ≤ yD p g.1.toNat → t + 1 ≤ yD (rch g p x t) g.1.toNat := by
  intro t
  induction t with
  | zero =>
    intro _
    have := NY (p := fun _ => false) (q := rch g p x 0) (n := g.1.toNat) (by simp) ⟨x, hx, rfl, by simp [rch]⟩
    omega
  | succ t ih =>
    intro ht
    have h1 := ih (by omega)
    obtain ⟨j, hj1, hj2⟩ := hstep t (by omega)
    have := NY (p := rch g p x t) (q := rch g p x (t + 1)) (n := g.1.toNat) (fun j _ h => Qt h _ (by omega)) ⟨j, zaP hg hx _ j hj1, hj2, hj1⟩
    omega
 have h1 := hgrow (yD p g.1.toNat) (Nat.le_refl _)
 have h2 : yD (rch g p x (yD p g.1.toNat)) g.1.toNat ≤ yD p g.1.toNat := zaH fun j _ h => zbu hp _ j h
 omega
theorem zef {g : Gr} (hg : y7 g = true) {p : Nat → Bool} {x : Nat} (hx : x < g.1.toNat) (hp : p x = true) {s : Nat} (hs : yD p g.1.toNat ≤ s + 1) : ∀ j, rch g p x s j = QK g p x j := by
 intro j
 obtain ⟨t, ht, hst⟩ := zbb hg hx hp
 have hcn := Ze (p := p) (n := g.1.toNat)
 have key : ∀ s, t ≤ s → (rch g p x s j = true ↔ rch g p x t j = true) := fun s hs => ⟨fun h => by
  have : s = t + (s - t) := by omega
  rw [this] at h; exact KK hst (s - t) j h, fun h => Qt h s hs⟩
 rw [Bool.eq_iff_iff, key s (by omega)]
 unfold QK
 rw [key g.1.toNat (by omega)]
theorem zgZ {g : Gr} {p : Nat → Bool} {x j : Nat} (hx : p x = true) (h : QK g p x j = true) : p j = true := zbu hx _ j h
theorem zgW {g : Gr} (hg : y7 g = true) {p : Nat → Bool} {x j : Nat} (hx : x < g.1.toNat) (h : QK g p x j = true) : j < g.1.toNat := zaP hg hx _ j h
theorem QB {g : Gr} (hg : y7 g = true) {p : Nat → Bool} {x y j : Nat} (hx : x < g.1.toNat) (hp : p x = true) (hy : QK g p x y = true) (hj : p j = true) (ha : adj g y j = true) : QK g p x j = true := by
 have hcn := Ze (p := p) (n := g.1.toNat)
 have := zef hg hx hp (s := g.1.toNat + 1) (by omega) j
 rw [← this]
 exact WJ.2 (.inr ⟨hj, y, zgW hg hx hy, hy, ha⟩)
end Go.Zq
namespace Go.Zq
def YF (p : Nat → Bool) : Nat → Option Nat
 | 0 => none
 | n + 1 => match YF p n with
   | some x => some x
   | none => if p n then some n else none
theorem vd {p : Nat → Bool} : ∀ {n : Nat}, YF p n = none ↔ ∀ j, j < n → p j = false
 | 0 => by simp [YF]
 | n + 1 => by
   have ih := vd (p := p) (n := n)
   simp only [YF]
   cases h : YF p n with
   | some x =>
     simp only [reduceCtorEq, false_iff]
     intro hj
     have := ih.2 (fun j hj' => hj j (by omega))
     rw [h] at this; cases this
   | none =>
     simp only
     have h1 := ih.1 h
     by_cases hp : p n = true
     · rw [if_pos hp]
       simp only [reduceCtorEq, false_iff]
       intro hj; have := hj n (by omega); rw [hp] at this; cases this
     · rw [if_neg hp]
       simp only [true_iff]
       intro j hj
       by_cases e : j = n
       · subst e; simpa using hp
       · exact h1 j (by omega)
theorem Zj {p : Nat → Bool} {x : Nat} : ∀ {n : Nat}, YF p n = some x → x < n ∧ p x = true ∧ ∀ j, j < x → p j = false
 | 0, h => by simp [YF] at h
 | n + 1, h => by
   simp only [YF] at h
   cases h1 : YF p n with
   | some y =>
     rw [h1] at h
     simp only [Option.some.injEq] at h
     subst h
     have := Zj h1
     exact ⟨by omega, this.2⟩
   | none =>
     rw [h1] at h
     simp only at h
     split at h
     · rename_i hp
       simp only [Option.some.injEq] at h
       subst h
       exact ⟨by omega, hp, vd.1 h1⟩
     · cases h
theorem zei {p : Nat → Bool} {n : Nat} : mkm p n = 0 ↔ YF p n = none := by
 rw [vd]
 constructor
 · intro h j hj
   have := xc (p := p) n j
   rw [h, Nat.zero_testBit] at this
   simpa [hj] using this.symm
 · intro h
   apply Nat.eq_of_testBit_eq; intro j
   rw [xc, Nat.zero_testBit]
   by_cases hj : j < n
   · simp [h j hj]
   · simp [hj]
end Go.Zq
namespace Go.Zq
theorem zfI {α : Type} {xs : List α} {i : Nat} (h : i ≤ xs.length) : sub xs 0 (i : Int) = some (xs.take i) := by
 unfold sub
 rw [if_pos ⟨by omega, by omega, by omega⟩]
 simp
def zbx (xs : List (List Int)) : Nat → Nat
 | 0 => 0
 | i + 1 => zbx xs i + (xs.getD i []).length
theorem L5 {xs : List (List Int)} : ∀ {i j : Nat}, i ≤ j → zbx xs i ≤ zbx xs j
 | i, 0, h => by obtain rfl : i = 0 := by omega
                 exact Nat.le_refl _
 | i, j + 1, h => by
   by_cases e : i = j + 1
   · subst e; exact Nat.le_refl _
   · have := L5 (xs := xs) (i := i) (j := j) (by omega)
     simp only [zbx]; omega
theorem zhY {xs : List (List Int)} {i : Nat} (h : i < xs.length) : (xs.getD i []).length ≤ zbx xs xs.length := by
 have := L5 (xs := xs) (i := i + 1) (j := xs.length) (by omega)
 simp only [zbx] at this; omega
def J7 (n : Int) (l : List Int) : Bool := vC (fun i => (decide (0 ≤ l.getD i 0) && decide (l.getD i 0 < n)) && (i == 0 || decide (l.getD (i - 1) 0 < l.getD i 0))) l.length
theorem zfY {F : Nat} {g : Gr} {l : List Int} (hg : y7 g = true) (hF : l.length < F) (hl : Sm l.length) : XD F g l = some (J7 g.1 l) := by
 have h8 := z2 hg
 unfold XD Zm
 have hw : w64 (g.1 - 1) = g.1 - 1 := xW (by omega) (by omega)
 rw [hw, vv (L := fun k i => yV F l 0 (g.1 - 1) k i) (n := l.length) (p := fun i => (decide (0 ≤ l.getD i 0) && decide (l.getD i 0 < g.1)) && (i == 0 || decide (l.getD (i - 1) 0 < l.getD i 0))) (bad := some false) (fin := some true) ?_ ?_ F hF]
 · unfold J7
   cases vC (fun i => (decide (0 ≤ l.getD i 0) && decide (l.getD i 0 < g.1)) && (i == 0 || decide (l.getD (i - 1) 0 < l.getD i 0))) l.length <;> rfl
 · intro k i hi
   simp only [yV, vl]
   rw [decide_eq_true (show (i : Int) < (l.length : Int) by omega), cond_true, zX (d := 0) hi, Option.bind_some, Nj, Option.bind_some, z3 hi hl]
   have e : decide (l.getD i 0 ≤ g.1 - 1) = decide (l.getD i 0 < g.1) := by
    rw [decide_eq_decide]; omega
   rw [e]
   cases hb : (decide (0 ≤ l.getD i 0) && decide (l.getD i 0 < g.1)) with
   | false => rfl
   | true =>
     rw [Bool.not_true, cond_false, Bool.true_and]
     by_cases h0 : i = 0
     · subst h0; rfl
     · rw [decide_eq_true (show (i : Int) > 0 by omega), cond_true, Uy (by omega) hi hl, zX (d := 0) (by omega), Option.bind_some, Option.bind_some]
       have h0' : (i == 0) = false := by simpa using h0
       rw [h0', Bool.false_or]
       by_cases h : l.getD (i - 1) 0 < l.getD i 0
       · rw [decide_eq_true h, decide_eq_false (by omega)]; rfl
       · rw [decide_eq_false h, decide_eq_true (by omega)]; rfl
 · intro k
   simp only [yV]
   rw [decide_eq_false (show ¬ (l.length : Int) < (l.length : Int) by omega), cond_false]
theorem zeG {F : Nat} {g : Gr} {l : List Int} (hg : y7 g = true) (hF : l.length < F) (hl : Sm l.length) (hG : g.2.length < F) (hs : Sm g.2.length) (h3 : 3 ≤ F) : YJ F g l = some (J7 g.1 l) := by
 have h8 := z2 hg
 unfold YJ Zn wv vO
 have hw : w64 (g.1 - 1) = g.1 - 1 := xW (by omega) (by omega)
 rw [vx hG h3 hs, Option.bind_some, hg, cond_true, hw]
 rw [vv (L := fun k i => xa F 0 (g.1 - 1) l k i) (n := l.length) (p := fun i => decide (0 ≤ l.getD i 0) && decide (l.getD i 0 < g.1)) (bad := some false) (fin := some true) ?_ ?_ F hF]
 · have hinc : yS F l F 1 = some (vC (fun i => i == 0 || decide (l.getD (i - 1) 0 < l.getD i 0)) l.length) := by
    show yS F l F ((0 : Int) + 1) = _
    by_cases hl0 : l.length = 0
    · obtain ⟨k, rfl⟩ : ∃ k, F = k + 1 := ⟨F - 1, by omega⟩
      simp only [yS]
      rw [hl0, decide_eq_false (by omega), cond_false]; rfl
    · rw [vv (L := fun k i => yS F l k (i + 1)) (n := l.length - 1) (p := fun i => decide (l.getD i 0 < l.getD (i + 1) 0)) (bad := some false) (fin := some true) ?_ ?_ F (by omega)]
      · have : vC (fun i => decide (l.getD i 0 < l.getD (i + 1) 0)) (l.length - 1) = vC (fun i => i == 0 || decide (l.getD (i - 1) 0 < l.getD i 0)) l.length := by
         rw [Bool.eq_iff_iff, yI, yI]
         constructor
         · intro h i hi
           cases i with
           | zero => rfl
           | succ i => simpa using h i (by omega)
         · intro h i hi
           simpa using h (i + 1) (by omega)
        rw [this]
        cases vC (fun i => i == 0 || decide (l.getD (i - 1) 0 < l.getD i 0)) l.length <;> rfl
      · intro k i hi
        have e1 : ((i : Int) + 1) = ((i + 1 : Nat) : Int) := by omega
        simp only [yS]
        rw [e1, decide_eq_true (show ((i + 1 : Nat) : Int) < (l.length : Int) by omega), cond_true, Uy (n := l.length) (by omega) (by omega) hl, Nat.add_sub_cancel, zX (d := 0) (by omega), Option.bind_some, zX (d := 0) (by omega), Option.bind_some, z3 (n := l.length) (by omega) hl]
        by_cases h : l.getD i 0 < l.getD (i + 1) 0
        · rw [decide_eq_true h, decide_eq_false (by omega)]; rfl
        · rw [decide_eq_false h, decide_eq_true (by omega)]; rfl
      · intro k
        simp only [yS]
        rw [decide_eq_false (by omega), cond_false]
   have hsplit : J7 g.1 l = (vC (fun i => decide (0 ≤ l.getD i 0) && decide (l.getD i 0 < g.1)) l.length && vC (fun i => i == 0 || decide (l.getD (i - 1) 0 < l.getD i 0)) l.length) := by
    unfold J7
    rw [Bool.eq_iff_iff, Bool.and_eq_true, yI, yI, yI]
    constructor
    · intro h
      constructor
      · intro i hi; have := h i hi; rw [Bool.and_eq_true] at this; exact this.1
      · intro i hi; have := h i hi; rw [Bool.and_eq_true] at this; exact this.2
    · rintro ⟨h1, h2⟩ i hi; rw [Bool.and_eq_true]; exact ⟨h1 i hi, h2 i hi⟩
   rw [hinc, hsplit]
   cases vC (fun i => decide (0 ≤ l.getD i 0) && decide (l.getD i 0 < g.1)) l.length <;> rfl
 · intro k i hi
   simp only [xa]
   rw [decide_eq_true (show (i : Int) < (l.length : Int) by omega), cond_true, zX (d := 0) hi, Option.bind_some, JG, Option.bind_some, z3 hi hl]
   have e : decide (l.getD i 0 ≤ g.1 - 1) = decide (l.getD i 0 < g.1) := by
    rw [decide_eq_decide]; omega
   rw [e]
   cases (decide (0 ≤ l.getD i 0) && decide (l.getD i 0 < g.1)) <;> rfl
 · intro k
   simp only [xa]
   rw [decide_eq_false (show ¬ (l.length : Int) < (l.length : Int) by omega), cond_false]
end Go.Zq
namespace Go.Zq
def UO (v : Int → Int) (s : Option Int) (y : Int) : Option Int := match s with
 | none => some (v y)
 | some b => if v y < b then some (v y) else some b
def mnO (v : Int → Int) (l : List Int) : Option Int := l.foldl (UO v) none
def mn (v : Int → Int) (l : List Int) (nn : Int) : Int := (mnO v l).getD nn
theorem QI {v : Int → Int} {l : List Int} {y : Int} : mnO v (l ++ [y]) = UO v (mnO v l) y := by simp [mnO, List.foldl_append]
theorem QU {v : Int → Int} : ∀ {l : List Int}, mnO v l = none ↔ l = [] := by
 intro l
 constructor
 · intro h
   cases hl : l.reverse with
   | nil => simpa using hl
   | cons y ys =>
     have : l = ys.reverse ++ [y] := by rw [← List.reverse_reverse l, hl]; simp
     rw [this, QI] at h
     unfold UO at h
     split at h
     · cases h
     · split at h <;> cases h
 · rintro rfl; rfl
theorem zaM {v : Int → Int} {nn : Int} : mn v [] nn = nn := rfl
theorem NM {v : Int → Int} {l : List Int} {y nn : Int} : mn v (l ++ [y]) nn = if l = [] ∨ v y < mn v l nn then v y else mn v l nn := by
 unfold mn
 rw [QI]
 cases h : mnO v l with
 | none =>
   have := QU.1 h
   rw [if_pos (.inl this)]; rfl
 | some b =>
   have hne : l ≠ [] := fun e => by rw [QU.2 e] at h; cases h
   simp only [UO, Option.getD_some, hne, false_or]
   split <;> rfl
theorem zar {v w : Int → Int} {nn : Int} {l : List Int} (h : ∀ y ∈ l, v y = w y) : mn v l nn = mn w l nn := by
 have key : ∀ (l : List Int) (s : Option Int), (∀ y ∈ l, v y = w y) → l.foldl (UO v) s = l.foldl (UO w) s := by
  intro l
  induction l with
  | nil => intro s _; rfl
  | cons y l ih =>
    intro s h
    simp only [List.foldl_cons]
    have : UO v s y = UO w s y := by
     unfold UO
     rw [h y (by simp)]
    rw [this]
    exact ih _ fun z hz => h z (by simp [hz])
 unfold mn mnO
 rw [key l none h]
theorem zbC {v : Int → Int} {nn t : Int} {l : List Int} (hl : l ≠ []) : mn v l nn ≤ t ↔ ∃ y ∈ l, v y ≤ t := by
 have key : ∀ (r : List Int), r ≠ [] → (mn v r.reverse nn ≤ t ↔ ∃ y ∈ r, v y ≤ t) := by
  intro r
  induction r with
  | nil => intro h; exact absurd rfl h
  | cons y r ih =>
    intro _
    rw [List.reverse_cons, NM]
    by_cases hr : r = []
    · subst hr
      simp
    · have hr' : r.reverse ≠ [] := by simpa using hr
      have := ih hr
      simp only [hr', false_or, List.mem_cons, exists_eq_or_imp]
      split
      · rename_i h
        constructor
        · intro h1; exact .inl h1
        · rintro (h1 | h1)
          · exact h1
          · have := this.2 h1; omega
      · rename_i h
        constructor
        · intro h1; exact .inr (this.1 h1)
        · rintro (h1 | h1)
          · omega
          · exact this.2 h1
 have := key l.reverse (by simpa using hl)
 simpa using this
theorem W2 {v : Int → Int} {nn : Int} {l : List Int} (hl : l ≠ []) (h : ∀ y ∈ l, 0 ≤ v y) : 0 ≤ mn v l nn := by
 by_cases h0 : mn v l nn ≤ -1
 · obtain ⟨y, hy, h1⟩ := (zbC hl).1 h0
   have := h y hy; omega
 · omega
def wF (n m : Nat) : List Int := zL (fun x => !m.testBit x) n
def Jk (n m : Nat) : List Int := zL m.testBit n
theorem uT {n m : Nat} {y : Int} : y ∈ wF n m ↔ ∃ x : Nat, y = x ∧ x < n ∧ m.testBit x = false := by
 unfold wF
 rw [wd]
 simp
theorem Yx {n m : Nat} {y : Int} : y ∈ Jk n m ↔ ∃ x : Nat, y = x ∧ x < n ∧ m.testBit x = true := wd
theorem UL : ∀ c : Nat, c < 256 → ∀ y : Nat, y < 8 → c.testBit y = false → c ||| 2 ^ y = c + 2 ^ y := by decide +kernel
theorem Qb : ∀ c : Nat, c < 256 → ∀ y : Nat, y < 8 → c.testBit y = true → 2 ^ y ≤ c ∧ (c - 2 ^ y).testBit y = false ∧ (c - 2 ^ y) ||| 2 ^ y = c := by decide +kernel
theorem MC {n m : Nat} (hn : n ≤ 8) (h : m < 2 ^ n) : m < 256 := Nat.lt_of_lt_of_le h (by
 have := Nat.pow_le_pow_right (n := 2) (by decide) hn
 simpa using this)
theorem KF {n m x : Nat} (h : m < 2 ^ n) (hx : x < n) : m ||| 2 ^ x < 2 ^ n := Nat.or_lt_two_pow h (Nat.pow_lt_pow_right (by decide) hx)
theorem NB {n m : Nat} (h : m < 2 ^ n) (hb : ∀ x, x < n → m.testBit x = true) : m = 2 ^ n - 1 := by
 apply Nat.eq_of_testBit_eq
 intro j
 rw [Nat.testBit_two_pow_sub_one]
 by_cases hj : j < n
 · rw [hb j hj, decide_eq_true hj]
 · rw [decide_eq_false hj]
   exact Nat.testBit_lt_two_pow (Nat.lt_of_lt_of_le h (Nat.pow_le_pow_right (by decide) (by omega)))
theorem Ux {n m : Nat} (h : m < 2 ^ n) : wF n m = [] ↔ m = 2 ^ n - 1 := by
 constructor
 · intro h0
   refine NB h fun x hx => ?_
   cases hb : m.testBit x with
   | true => rfl
   | false =>
     have : (x : Int) ∈ wF n m := uT.2 ⟨x, rfl, hx, hb⟩
     rw [h0] at this; cases this
 · rintro rfl
   rw [List.eq_nil_iff_forall_not_mem]
   intro y hy
   obtain ⟨x, _, hx, hb⟩ := uT.1 hy
   rw [Nat.testBit_two_pow_sub_one, decide_eq_true hx] at hb; cases hb
theorem QO {n m : Nat} (h : m < 2 ^ n) : Jk n m = [] ↔ m = 0 := by
 constructor
 · intro h0
   apply Nat.eq_of_testBit_eq
   intro j
   rw [Nat.zero_testBit]
   by_cases hj : j < n
   · cases hb : m.testBit j with
     | false => rfl
     | true =>
       have : (j : Int) ∈ Jk n m := Yx.2 ⟨j, rfl, hj, hb⟩
       rw [h0] at this; cases this
   · exact Nat.testBit_lt_two_pow (Nat.lt_of_lt_of_le h (Nat.pow_le_pow_right (by decide) (by omega)))
 · rintro rfl
   rw [List.eq_nil_iff_forall_not_mem]
   intro y hy
   obtain ⟨x, _, hx, hb⟩ := Yx.1 hy
   simp at hb
def Jy (n : Nat) (c : Nat → Nat → Int) (nn : Int) (T : Nat → Int) : Prop := ∀ m, m < 2 ^ n → T m = mn (fun x => max (c m x.toNat) (T (m ||| 2 ^ x.toNat))) (wF n m) nn
def zgv (n : Nat) (c : Nat → Int) (W : Nat → Int) : Prop := W 0 = 0 ∧ ∀ m, 0 < m → m < 2 ^ n → W m = max (mn (fun x => W (m - 2 ^ x.toNat)) (Jk n m) (-1)) (c m)
inductive Ch (n : Nat) (c : Nat → Int) (t : Int) : Nat → Nat → Prop
 | refl (m : Nat) : Ch n c t m m
 | step {m x m' : Nat} : x < n → m.testBit x = false → c (m ||| 2 ^ x) ≤ t → Ch n c t (m ||| 2 ^ x) m' → Ch n c t m m'
theorem zcq {n : Nat} {c : Nat → Int} {t : Int} {a m x : Nat} (h : Ch n c t a m) (hx : x < n) (hb : m.testBit x = false) (hc : c (m ||| 2 ^ x) ≤ t) : Ch n c t a (m ||| 2 ^ x) := by
 induction h with
 | refl m => exact .step hx hb hc (.refl _)
 | step h1 h2 h3 _ ih => exact .step h1 h2 h3 (ih hb hc)
theorem zhR {n : Nat} {c : Nat → Int} {t : Int} (hn : n ≤ 8) {a b : Nat} (h : Ch n c t a b) (ha : a < 2 ^ n) : a = b ∨ ∃ x, x < n ∧ b.testBit x = true ∧ c b ≤ t ∧ Ch n c t a (b - 2 ^ x) := by
 induction h with
 | refl m => exact .inl rfl
 | step h1 h2 h3 h4 ih =>
   rename_i m x m'
   right
   rcases ih (KF ha h1) with rfl | ⟨y, y1, y2, y3, y4⟩
   · refine ⟨x, h1, by rw [Nat.testBit_or, Nat.testBit_two_pow]; simp, h3, ?_⟩
     rw [UL m (MC hn ha) x (by omega) h2, Nat.add_sub_cancel]
     exact .refl _
   · exact ⟨y, y1, y2, y3, .step h1 h2 h3 y4⟩
theorem N3 {n : Nat} {c : Nat → Int} {t : Int} {T : Nat → Int} (hn : n ≤ 8) (hT : Jy n (fun m x => c (m ||| 2 ^ x)) 0 T) (ht : 0 ≤ t) : ∀ m, m < 2 ^ n → (T m ≤ t ↔ Ch n c t m (2 ^ n - 1)) := by
 have key : ∀ d m, m + d = 2 ^ n → m < 2 ^ n → (T m ≤ t ↔ Ch n c t m (2 ^ n - 1)) := by
  intro d
  induction d using Nat.strongRecOn with
  | ind d ih =>
    intro m hd hm
    rw [hT m hm]
    by_cases hf : m = 2 ^ n - 1
    · rw [(Ux hm).2 hf, zaM]
      subst hf
      exact ⟨fun _ => .refl _, fun _ => ht⟩
    · have hne : wF n m ≠ [] := fun e => hf ((Ux hm).1 e)
      rw [zbC hne]
      constructor
      · rintro ⟨y, hy, h⟩
        obtain ⟨x, rfl, hx, hb⟩ := uT.1 hy
        rw [Int.toNat_natCast] at h
        have h : max (c (m ||| 2 ^ x)) (T (m ||| 2 ^ x)) ≤ t := h
        have h1 := UL m (MC hn hm) x (by omega) hb
        have h2 := KF hm hx
        have h3 := Nat.two_pow_pos x
        exact .step hx hb (by omega) ((ih (2 ^ n - (m ||| 2 ^ x)) (by omega) (m ||| 2 ^ x) (by omega) h2).1 (by omega))
      · intro h
        cases h with
        | refl => exact absurd rfl hf
        | step hx hb hc h =>
          rename_i x
          have h1 := UL m (MC hn hm) x (by omega) hb
          have h2 := KF hm hx
          have h3 := Nat.two_pow_pos x
          refine ⟨(x : Int), uT.2 ⟨x, rfl, hx, hb⟩, ?_⟩
          rw [Int.toNat_natCast]
          have := (ih (2 ^ n - (m ||| 2 ^ x)) (by omega) (m ||| 2 ^ x) (by omega) h2).2 h
          exact Int.max_le.2 ⟨hc, this⟩
 intro m hm
 exact key (2 ^ n - m) m (by omega) hm
theorem zeB {n : Nat} {c : Nat → Int} {t : Int} {W : Nat → Int} (hn : n ≤ 8) (hW : zgv n c W) (ht : 0 ≤ t) : ∀ m, m < 2 ^ n → (W m ≤ t ↔ Ch n c t 0 m) := by
 intro m
 induction m using Nat.strongRecOn with
 | ind m ih =>
   intro hm
   by_cases h0 : m = 0
   · subst h0
     rw [hW.1]
     exact ⟨fun _ => .refl _, fun _ => ht⟩
   · rw [hW.2 m (by omega) hm]
     have hne : Jk n m ≠ [] := fun e => h0 ((QO hm).1 e)
     rw [Int.max_le, zbC hne]
     constructor
     · rintro ⟨⟨y, hy, h⟩, hc⟩
       obtain ⟨x, rfl, hx, hb⟩ := Yx.1 hy
       rw [Int.toNat_natCast] at h
       obtain ⟨s1, s2, s3⟩ := Qb m (MC hn hm) x (by omega) hb
       have h3 := Nat.two_pow_pos x
       have := zcq ((ih (m - 2 ^ x) (by omega) (by omega)).1 h) hx s2 (by rw [s3]; exact hc)
       rwa [s3] at this
     · intro h
       rcases zhR hn h (Nat.two_pow_pos n) with h | ⟨x, hx, hb, hc, h⟩
       · omega
       · obtain ⟨s1, s2, s3⟩ := Qb m (MC hn hm) x (by omega) hb
         have h3 := Nat.two_pow_pos x
         refine ⟨⟨(x : Int), Yx.2 ⟨x, rfl, hx, hb⟩, ?_⟩, hc⟩
         rw [Int.toNat_natCast]
         exact (ih (m - 2 ^ x) (by omega) (by omega)).2 h
theorem QY {n : Nat} {c : Nat → Int} {W T : Nat → Int} (hn : n ≤ 8) (hc : ∀ m, 0 ≤ c m) (hW : zgv n c W) (hT : Jy n (fun m x => c (m ||| 2 ^ x)) 0 T) : W (2 ^ n - 1) = T 0 := by
 have hp := Nat.two_pow_pos n
 have hT0 : 0 ≤ T 0 := by
  rw [hT 0 hp]
  by_cases h : wF n 0 = []
  · rw [h]; exact Int.le_refl _
  · refine W2 h fun y _ => ?_
    have := hc (0 ||| 2 ^ y.toNat)
    show 0 ≤ max (c (0 ||| 2 ^ y.toNat)) (T (0 ||| 2 ^ y.toNat))
    omega
 have hW0 : 0 ≤ W (2 ^ n - 1) := by
  by_cases h : 2 ^ n - 1 = 0
  · rw [h, hW.1]; exact Int.le_refl _
  · rw [hW.2 _ (by omega) (by omega)]
    have := hc (2 ^ n - 1)
    omega
 apply Int.le_antisymm
 · exact (zeB hn hW hT0 _ (by omega)).2 ((N3 hn hT hT0 0 hp).1 (Int.le_refl _))
 · exact (N3 hn hT hW0 0 hp).2 ((zeB hn hW hW0 _ (by omega)).1 (Int.le_refl _))
end Go.Zq
namespace Go.Zq
def frt (g : Gr) (p : Nat → Bool) (j : Nat) : Bool := p j && xV (fun y => adj g j y && !p y) g.1.toNat
theorem WW {F : Nat} {g : Gr} {p : Nat → Bool} (hg : y7 g = true) (hF : 20 ≤ F) (hG : g.2.length < F) (hs : Sm g.2.length) : xx F g (zL p g.1.toNat) = some (zL (frt g p) g.1.toNat) := by
 have h8 := z2 hg
 have hp8 : (zL p g.1.toNat).length ≤ 8 := by rw [yN]; exact Nat.le_trans Ze (by omega)
 let Q : Nat → Nat → Bool := fun i j => decide ((j : Int) ∈ (zL p g.1.toNat).take i) && xV (fun y => adj g j y && !p y) g.1.toNat
 unfold xx
 refine xo (L := fun k i s => yW F (zL p g.1.toNat) g k s i) (n := (zL p g.1.toNat).length) (fun i s => s = zL (Q i) g.1.toNat) ?_ ?_ F _ (by omega) ?_
 · intro k i s hi hI
   subst hI
   refine ⟨_, rfl, ?_⟩
   obtain ⟨a, ha, han, hap⟩ := WZ hi
   simp only [yW]
   rw [decide_eq_true (show (i : Int) < ((zL p g.1.toNat).length : Int) by omega), cond_true]
   refine xo (L := fun k2 y s => yY F (zL p g.1.toNat) g (i : Int) (yW F (zL p g.1.toNat) g k) k2 s y) (n := g.1.toNat) (fun y s => s = zL (fun j => Q i j || (j == a && xV (fun y => adj g a y && !p y) y)) g.1.toNat) ?_ ?_ F _ (by omega) ?_
   · intro k2 y s hy hI
     subst hI
     refine ⟨_, rfl, ?_⟩
     simp only [yY, vP, vR]
     rw [decide_eq_true (show (y : Int) < g.1 by omega), cond_true, zX (d := 0) hi, Option.bind_some, Option.bind_some, ha, MM hG hs, Option.bind_some, zd2 (by omega) hy (by omega), Option.bind_some, zec (by omega) han (by omega), Option.bind_some, z3 hy (by unfold Sm; omega)]
     have hsame : (adj g a y && !p y) = false → zL (fun j => Q i j || (j == a && xV (fun y => adj g a y && !p y) (y + 1))) g.1.toNat = zL (fun j => Q i j || (j == a && xV (fun y => adj g a y && !p y) y)) g.1.toNat := by
      intro h
      apply xg
      intro j _
      simp only [xV]
      rw [h, Bool.or_false]
     cases h1 : adj g a y with
     | false => rw [hsame (by rw [h1]; rfl)]; rfl
     | true =>
       rw [cond_true]
       cases h2 : p y with
       | true => rw [hsame (by rw [h1, h2]; rfl)]; rfl
       | false =>
         rw [Bool.not_false, cond_true]
         congr 1
         apply xg
         intro j _
         simp only [xV]
         rw [h1, h2]
         by_cases e : j = a
         · subst e; simp
         · have : (j == a) = false := by simpa using e
           rw [this]; simp
   · intro k2 s hI
     subst hI
     simp only [yY]
     rw [decide_eq_false (show ¬ (g.1.toNat : Int) < g.1 by omega), cond_false, z3 hi (by unfold Sm; omega)]
     congr 1
     apply xg
     intro j _
     have hp2 := Yo (x := a) hi ha j
     unfold xz at hp2
     show (Q i j || _) = Q (i + 1) j
     show (Q i j || _) = (decide ((j : Int) ∈ (zL p g.1.toNat).take (i + 1)) && xV (fun y => adj g j y && !p y) g.1.toNat)
     rw [hp2]
     by_cases e : j = a
     · subst e
       rw [beq_self_eq_true, Bool.true_and, Bool.or_true, Bool.true_and]
       show ((_ && xV (fun y => adj g j y && !p y) g.1.toNat) || _) = _
       cases xV (fun y => adj g j y && !p y) g.1.toNat <;> simp
     · have : (j == a) = false := by simpa using e
       rw [this, Bool.false_and, Bool.or_false, Bool.or_false]
   · apply xg
     intro j _
     simp [xV]
 · intro k s hI
   subst hI
   simp only [yW]
   rw [decide_eq_false (show ¬ ((zL p g.1.toNat).length : Int) < ((zL p g.1.toNat).length : Int) by omega), cond_false]
   congr 1
   apply xg
   intro j hj
   show (decide ((j : Int) ∈ (zL p g.1.toNat).take (zL p g.1.toNat).length) && _) = _
   rw [List.take_length]
   unfold frt
   congr 1
   rw [Bool.eq_iff_iff, decide_eq_true_eq, wd]
   constructor
   · rintro ⟨j', e, _, h⟩
     obtain rfl : j = j' := by omega
     exact h
   · exact fun h => ⟨j, rfl, hj, h⟩
 · have : zL (Q 0) g.1.toNat = zL (fun _ => false) g.1.toNat := by
    apply xg
    intro j _
    show (decide ((j : Int) ∈ (zL p g.1.toNat).take 0) && _) = false
    simp
   rw [this]; simp [zL]
theorem JA {F : Nat} {g : Gr} {p : Nat → Bool} (hg : y7 g = true) (hF : 20 ≤ F) : x9 F ⟨yZ g⟩ ((mkm p g.1.toNat : Nat) : Int) = some ((mkm (frt g p) g.1.toNat : Nat) : Int) := by
 have h8 := z2 hg
 have hp8 : (zL p g.1.toNat).length ≤ 8 := by rw [yN]; exact Nat.le_trans Ze (by omega)
 unfold x9
 rw [UW (by omega) hF, Option.bind_some]
 refine xo (L := fun k i s => y9 F ((mkm p g.1.toNat : Nat) : Int) ⟨yZ g⟩ (zL p g.1.toNat) k s i) (n := (zL p g.1.toNat).length) (fun i s => s = ((mkm (fun j => decide ((j : Int) ∈ (zL p g.1.toNat).take i) && xV (fun y => adj g j y && !p y) g.1.toNat) g.1.toNat : Nat) : Int)) ?_ ?_ F _ (by omega) ?_
 · intro k i s hi hI
   subst hI
   refine ⟨_, rfl, ?_⟩
   obtain ⟨a, ha, han, hap⟩ := WZ hi
   simp only [y9, vy]
   rw [decide_eq_true (show (i : Int) < ((zL p g.1.toNat).length : Int) by omega), cond_true, zX (d := 0) hi, Option.bind_some, ha, zX (d := 0) (by rw [Z7]; exact han), Option.bind_some, Mm han, xY (by omega), Option.bind_some, z3 hi (by unfold Sm; omega)]
   obtain ⟨c, hc, _, hb⟩ := WC (Wz (p := adj g a) (n := g.1.toNat) (by omega)) (Wz (p := p) (n := g.1.toNat) (by omega))
   rw [hc]
   have hiff : c = 0 ↔ xV (fun y => adj g a y && !p y) g.1.toNat = false := by
    rw [Km, Bool.not_eq_false', yI]
    constructor
    · intro h0 y hy
      have := hb y
      rw [h0, Nat.zero_testBit, xc, xc, decide_eq_true hy, Bool.true_and, Bool.true_and] at this
      rw [← this]; rfl
    · intro h
      apply Nat.eq_of_testBit_eq
      intro y
      rw [hb, xc, xc, Nat.zero_testBit]
      by_cases hy : y < g.1.toNat
      · have := h y hy
        rw [decide_eq_true hy, Bool.true_and, Bool.true_and]
        cases h6 : (adj g a y && !p y) with
        | false => rfl
        | true => rw [h6] at this; cases this
      · rw [decide_eq_false hy]; rfl
   have hset : ∀ b : Bool, xV (fun y => adj g a y && !p y) g.1.toNat = b → ∀ j : Nat, (decide ((j : Int) ∈ (zL p g.1.toNat).take (i + 1)) && xV (fun y => adj g j y && !p y) g.1.toNat) = ((decide ((j : Int) ∈ (zL p g.1.toNat).take i) && xV (fun y => adj g j y && !p y) g.1.toNat) || (b && j == a)) := by
    intro b hbb j
    have hp2 := Yo (x := a) hi ha j
    unfold xz at hp2
    rw [hp2]
    by_cases e : j = a
    · subst e
      rw [hbb, beq_self_eq_true, Bool.or_true, Bool.true_and, Bool.and_true]
      cases b <;> simp
    · have : (j == a) = false := by simpa using e
      rw [this, Bool.and_false, Bool.or_false, Bool.or_false]
   cases hany : xV (fun y => adj g a y && !p y) g.1.toNat with
   | false =>
     rw [hiff.2 hany]
     have : mkm (fun j => decide ((j : Int) ∈ (zL p g.1.toNat).take (i + 1)) && xV (fun y => adj g j y && !p y) g.1.toNat) g.1.toNat = mkm (fun j => decide ((j : Int) ∈ (zL p g.1.toNat).take i) && xV (fun y => adj g j y && !p y) g.1.toNat) g.1.toNat := by
      apply Jo
      intro j _
      rw [hset false hany j]; simp
     rw [this]; rfl
   | true =>
     have hne : c ≠ 0 := fun e => by rw [hiff.1 e] at hany; cases hany
     have hne2 : ((c : Int) != 0) = true := by simpa using hne
     rw [hne2, cond_true, YK (Wz (by omega)) (uX (by omega))]
     congr 2
     refine XR fun j => ?_
     rw [Nat.testBit_or, xc, Nat.testBit_two_pow, hset true hany j, Bool.true_and]
     by_cases e : j = a
     · subst e
       rw [decide_eq_true han]; simp
     · have e1 : (j == a) = false := by simpa using e
       rw [e1, decide_eq_false (show ¬ a = j by omega), Bool.or_false, Bool.or_false]
 · intro k s hI
   subst hI
   simp only [y9]
   rw [decide_eq_false (show ¬ ((zL p g.1.toNat).length : Int) < ((zL p g.1.toNat).length : Int) by omega), cond_false]
   congr 2
   apply Jo
   intro j hj
   rw [List.take_length]
   unfold frt
   congr 1
   rw [Bool.eq_iff_iff, decide_eq_true_eq, wd]
   constructor
   · rintro ⟨j', e, _, h⟩
     obtain rfl : j = j' := by omega
     exact h
   · exact fun h => ⟨j, rfl, hj, h⟩
 · have : mkm (fun j => decide ((j : Int) ∈ (zL p g.1.toNat).take 0) && xV (fun y => adj g j y && !p y) g.1.toNat) g.1.toNat = 0 := by
    rw [zei, vd]
    intro j _
    simp
   rw [this]; rfl
def frC (g : Gr) (m : Nat) : Int := (yD (frt g m.testBit) g.1.toNat : Int)
theorem Zv {g : Gr} {m : Nat} : 0 ≤ frC g m := by unfold frC; omega
theorem KR {n m : Nat} (h : m < 2 ^ n) : mkm m.testBit n = m := by
 symm
 refine XR fun j => ?_
 by_cases hj : j < n
 · rw [decide_eq_true hj, Bool.true_and]
 · rw [decide_eq_false hj, Bool.false_and]
   exact Nat.testBit_lt_two_pow (Nat.lt_of_lt_of_le h (Nat.pow_le_pow_right (by decide) (by omega)))
theorem UF {F : Nat} {g : Gr} {m x : Nat} (hg : y7 g = true) (hF : 20 ≤ F) (hm : m < 2 ^ g.1.toNat) (hx : x < g.1.toNat) : yr F ⟨yZ g⟩ (m : Int) (x : Int) = some (frC g (m ||| 2 ^ x)) := by
 have h8 := z2 hg
 have h256 := MC (by omega) hm
 unfold yr
 rw [xY (by omega), Option.bind_some, YK (by omega) (uX (by omega))]
 have hf := JA (F := F) (p := (m ||| 2 ^ x).testBit) hg hF
 rw [KR (KF hm hx)] at hf
 rw [hf, Option.bind_some, M7 (zbI (by omega)), Option.bind_some, Xk (by omega)]
 rfl
def frP (g : Gr) (m x : Nat) : Int := frC g (m ||| 2 ^ x)
theorem K1 {F : Nat} {g : Gr} {m x : Nat} (hg : y7 g = true) (hF : 20 ≤ F) (hm : m < 2 ^ g.1.toNat) (hx : x < g.1.toNat) : yr F ⟨yZ g⟩ (m : Int) (x : Int) = some (frP g m x) := UF hg hF hm hx
end Go.Zq
namespace Go.Zq
theorem WA {F : Nat} {g : Gr} {nn : Int} (hg : y7 g = true) (hF : 300 ≤ F) :
    ∃ best : List Int, zO F ⟨yZ g⟩ nn ⟨(⟨yZ g⟩, ()), ()⟩ = some best ∧ best.length = 2 ^ g.1.toNat ∧ Jy g.1.toNat (frP g) nn (fun m => best.getD m 0) := by
 have h8 := z2 hg
 obtain ⟨n, hn⟩ : ∃ n : Nat, g.1.toNat = n := ⟨_, rfl⟩
 have hn8 : n ≤ 8 := by omega
 have hpow := Nat.two_pow_pos n
 have hp256 : 2 ^ n ≤ 256 := by
  have := Nat.pow_le_pow_right (n := 2) (by decide) hn8
  simpa using this
 have hall : y8 F ⟨yZ g⟩ = some ((2 ^ n - 1 : Nat) : Int) := by
  unfold y8
  rw [Z7, hn, xY (by omega), Option.bind_some, xW (by omega) (by omega)]
  congr 1; omega
 have hw : w64 (((2 ^ n - 1 : Nat) : Int) + 1) = ((2 ^ n : Nat) : Int) := by rw [xW (by omega) (by omega)]; omega
 unfold zO
 rw [hall, Option.bind_some, hw, MP (by omega), Option.bind_some, Option.bind_some, hn]
 have key : ∀ d k (best : List Int), d ≤ 2 ^ n → d < k → best.length = 2 ^ n →
     (∀ j, d ≤ j → j < 2 ^ n → best.getD j 0 = mn (fun x => max (frP g j x.toNat) (best.getD (j ||| 2 ^ x.toNat) 0)) (wF n j) nn) →
     ∃ b, zx F nn ⟨(⟨yZ g⟩, ()), ()⟩ ⟨yZ g⟩ k best ((d : Int) - 1) = some b ∧ b.length = 2 ^ n ∧ Jy n (frP g) nn (fun m => b.getD m 0) := by
  intro d
  induction d with
  | zero =>
    intro k best _ hk hlen hrec
    obtain ⟨k, rfl⟩ : ∃ k', k = k' + 1 := ⟨k - 1, by omega⟩
    refine ⟨best, ?_, hlen, fun m hm => hrec m (by omega) hm⟩
    simp only [zx]
    rw [decide_eq_false (by omega), cond_false]
  | succ d ih =>
    intro k best hd hk hlen hrec
    obtain ⟨k, rfl⟩ : ∃ k', k = k' + 1 := ⟨k - 1, by omega⟩
    have hdn : d < 2 ^ n := by omega
    have e0 : ((d + 1 : Nat) : Int) - 1 = (d : Int) := by omega
    have hmk : wC .i64 ((2 ^ n - 1 : Nat) : Int) (d : Int) = ((mkm (fun x => !d.testBit x) n : Nat) : Int) := by
     obtain ⟨c, hc, _, hb⟩ := WC (a := 2 ^ n - 1) (b := d) (by omega) (by omega)
     rw [hc]
     congr 1
     refine XR fun j => ?_
     rw [hb, Nat.testBit_two_pow_sub_one]
    have hl8 : (wF n d).length ≤ 8 := by unfold wF; rw [yN]; exact Nat.le_trans Ze hn8
    simp only [zx]
    rw [e0, decide_eq_true (by omega), cond_true, zX (d := 0) (by omega), Option.bind_some, hall, Option.bind_some, hmk, UW hn8 (by omega), Option.bind_some, Int.toNat_natCast]
    obtain ⟨s, hs, he⟩ := zcR (L := fun k2 t s => zC F nn ⟨(⟨yZ g⟩, ()), ()⟩ ⟨yZ g⟩ (d : Int) (wF n d) (zx F nn ⟨(⟨yZ g⟩, ()), ()⟩ ⟨yZ g⟩ k) k2 s t) (n := (wF n d).length)
     (fun t s => s = best.set d (mn (fun x => max (frP g d x.toNat) (best.getD (d ||| 2 ^ x.toNat) 0)) ((wF n d).take t) nn)) (fin := fun s => zx F nn ⟨(⟨yZ g⟩, ()), ()⟩ ⟨yZ g⟩ k s ((d : Int) - 1)) (by
       intro k2 t s ht hI
       subst hI
       refine ⟨_, rfl, ?_⟩
       obtain ⟨x, hx, hxn, hxb⟩ := uT.1 (ue (d := 0) ht)
       have hgt := UL d (by omega) x (by omega) hxb
       have hxp := Nat.two_pow_pos x
       have hor := KF hdn hxn
       have hcost := K1 (F := F) (m := d) (x := x) hg (by omega) (by rw [hn]; exact hdn) (by rw [hn]; exact hxn)
       have htake : (wF n d).take (t + 1) = (wF n d).take t ++ [(x : Int)] := by
        rw [List.take_add_one, List.getElem?_eq_getElem ht]
        rw [List.getD_eq_getElem?_getD, List.getElem?_eq_getElem ht, Option.getD_some] at hx
        rw [hx]; rfl
       have hget : ∀ a : Int, (best.set d a).getD (d ||| 2 ^ x) 0 = best.getD (d ||| 2 ^ x) 0 := by
        intro a
        rw [List.getD_eq_getElem?_getD, List.getElem?_set_ne (by omega), ← List.getD_eq_getElem?_getD]
       have hgetd : ∀ a : Int, (best.set d a).getD d 0 = a := by
        intro a
        rw [List.getD_eq_getElem?_getD, List.getElem?_set_self (by omega), Option.getD_some]
       simp only [zC, yi, yf]
       rw [decide_eq_true (show (t : Int) < ((wF n d).length : Int) by omega), cond_true, zX (d := 0) ht, Option.bind_some, hx]
       rw [hcost, Option.bind_some, xY (by omega), Option.bind_some, YK (by omega) (uX (by omega)), zX (d := 0) (by rw [List.length_set]; omega), Option.bind_some, hget, zX (d := 0) (by rw [List.length_set]; omega), Option.bind_some, Option.bind_some, hgetd, Int.toNat_natCast, List.set_set, z3 ht (by unfold Sm; omega), htake, NM]
       have hmax : (if best.getD (d ||| 2 ^ x) 0 > frP g d x then best.getD (d ||| 2 ^ x) 0 else frP g d x) = max (frP g d x) (best.getD (d ||| 2 ^ x) 0) := by
        by_cases h : best.getD (d ||| 2 ^ x) 0 > frP g d x
        · rw [if_pos h, Int.max_eq_right (by omega)]
        · rw [if_neg h, Int.max_eq_left (by omega)]
       rw [hmax, Int.toNat_natCast]
       by_cases ht0 : t = 0
       · subst ht0
         rw [if_pos (.inl (by simp))]
         rfl
       · have hne : (wF n d).take t ≠ [] := by
          intro e
          have := congrArg List.length e
          rw [List.length_take] at this
          simp only [List.length_nil] at this
          omega
         have hb : ((t : Int) == 0) = false := by rw [beq_eq_false_iff_ne]; omega
         rw [hb, cond_false]
         by_cases hlt : max (frP g d x) (best.getD (d ||| 2 ^ x) 0) < mn (fun x => max (frP g d x.toNat) (best.getD (d ||| 2 ^ x.toNat) 0)) ((wF n d).take t) nn
         · rw [decide_eq_true hlt, cond_true, if_pos (.inr hlt)]
         · rw [decide_eq_false hlt, cond_false, if_neg (fun h => h.elim hne hlt)]) (by
       intro k2 s hI
       simp only [zC]
       rw [decide_eq_false (show ¬ ((wF n d).length : Int) < ((wF n d).length : Int) by omega), cond_false, xW (by omega) (by omega)]) F (best.set d nn) (by omega) rfl
    have he' : zC F nn ⟨(⟨yZ g⟩, ()), ()⟩ ⟨yZ g⟩ (d : Int) (wF n d) (zx F nn ⟨(⟨yZ g⟩, ()), ()⟩ ⟨yZ g⟩ k) F (best.set d nn) 0 = zx F nn ⟨(⟨yZ g⟩, ()), ()⟩ ⟨yZ g⟩ k s ((d : Int) - 1) := he
    rw [List.take_length] at hs
    rw [show zL (fun x => !d.testBit x) n = wF n d from rfl, he']
    refine ih k s (by omega) (by omega) (by rw [hs, List.length_set]; exact hlen) ?_
    have hsd : s.getD d 0 = mn (fun x => max (frP g d x.toNat) (best.getD (d ||| 2 ^ x.toNat) 0)) (wF n d) nn := by
     rw [hs, List.getD_eq_getElem?_getD, List.getElem?_set_self (by omega), Option.getD_some]
    have hsne : ∀ j, j ≠ d → s.getD j 0 = best.getD j 0 := by
     intro j hj
     rw [hs, List.getD_eq_getElem?_getD, List.getElem?_set_ne (by omega), ← List.getD_eq_getElem?_getD]
    intro j h1 h2
    have hcg : mn (fun x => max (frP g j x.toNat) (best.getD (j ||| 2 ^ x.toNat) 0)) (wF n j) nn = mn (fun x => max (frP g j x.toNat) (s.getD (j ||| 2 ^ x.toNat) 0)) (wF n j) nn := by
     refine zar fun y hy => ?_
     obtain ⟨x, rfl, hxn, hxb⟩ := uT.1 hy
     have hgt := UL j (by omega) x (by omega) hxb
     have hxp := Nat.two_pow_pos x
     rw [Int.toNat_natCast, hsne _ (by omega)]
    by_cases e : j = d
    · subst e; rw [hsd, hcg]
    · rw [hsne j e, hrec j (by omega) h2, hcg]
 have e1 : ((2 ^ n - 1 : Nat) : Int) = ((2 ^ n : Nat) : Int) - 1 := by omega
 rw [e1]
 exact key (2 ^ n) F _ (by omega) (by omega) (by simp) (fun j h1 h2 => absurd h2 (by omega))
end Go.Zq
namespace Go.Zq
theorem JF {n : Nat} (hn : n ≤ 8) : 2 ^ n ≤ 256 := by
 have := Nat.pow_le_pow_right (n := 2) (by decide) hn
 simpa using this
theorem My {F : Nat} {g : Gr} (hg : y7 g = true) (hF : 300 ≤ F) (hG : g.2.length < F) (hs : Sm g.2.length) :
    ∃ out : List Int, uz F g = some out ∧ out.length = 2 ^ g.1.toNat ∧ zgv g.1.toNat (frC g) (fun m => out.getD m 0) := by
 have h8 := z2 hg
 obtain ⟨n, hn⟩ : ∃ n : Nat, g.1.toNat = n := ⟨_, rfl⟩
 have hn8 : n ≤ 8 := by omega
 have hgn : g.1 = (n : Int) := by omega
 have hpow := Nat.two_pow_pos n
 have hp256 := JF hn8
 rw [hn]
 unfold uz
 obtain ⟨s, ⟨i1, i2, i3⟩, he⟩ := zcR (L := fun k i s => xm F g k s (i + 1)) (n := 2 ^ n - 1)
  (fun i s => s.length = i + 1 ∧ (∀ j, j < i + 1 → 0 ≤ s.getD j 0) ∧ (s.getD 0 0 = 0 ∧ ∀ j, 0 < j → j < i + 1 → s.getD j 0 = max (mn (fun x => s.getD (j - 2 ^ x.toNat) 0) (Jk n j) (-1)) (frC g j))) (fin := fun s => some s) (by
    rintro k i s hi ⟨i1, i2, i3, i4⟩
    have hc2 : i + 1 < 2 ^ n := by omega
    have e1 : ((i : Int) + 1) = ((i + 1 : Nat) : Int) := by omega
    obtain ⟨code, hcode⟩ : ∃ code, i + 1 = code := ⟨_, rfl⟩
    have hc0 : 0 < code := by omega
    have hfr : xx F g (zL code.testBit n) = some (zL (frt g code.testBit) n) := by
     have := WW (F := F) (p := code.testBit) hg (by omega) hG hs
     rwa [hn] at this
    have hne : Jk n code ≠ [] := fun e => by have := (QO (by omega)).1 e; omega
    have hv : ∀ y ∈ Jk n code, 0 ≤ s.getD (code - 2 ^ y.toNat) 0 := by
     intro y hy
     obtain ⟨x, rfl, hx, hb⟩ := Yx.1 hy
     have := Nat.two_pow_pos x
     rw [Int.toNat_natCast]
     exact i2 _ (by omega)
    have hmn0 := W2 (nn := -1) hne hv
    refine ⟨s ++ [max (mn (fun x => s.getD (code - 2 ^ x.toNat) 0) (Jk n code) (-1)) (frC g code)], ⟨by rw [List.length_append]; simp; omega, ?_, ?_, ?_⟩, ?_⟩
    · intro j hj
      by_cases e : j < code
      · rw [List.getD_eq_getElem?_getD, List.getElem?_append_left (by omega), ← List.getD_eq_getElem?_getD]; exact i2 j (by omega)
      · obtain rfl : j = s.length := by omega
        rw [List.getD_eq_getElem?_getD, List.getElem?_append_right (by omega)]
        simp only [Nat.sub_self, List.getElem?_cons_zero, Option.getD_some]
        omega
    · rw [List.getD_eq_getElem?_getD, List.getElem?_append_left (by omega), ← List.getD_eq_getElem?_getD]; exact i3
    · intro j h0 hj
      have hold : ∀ k, k < code → (s ++ [max (mn (fun x => s.getD (code - 2 ^ x.toNat) 0) (Jk n code) (-1)) (frC g code)]).getD k 0 = s.getD k 0 := by
       intro k hk
       rw [List.getD_eq_getElem?_getD, List.getElem?_append_left (by omega), ← List.getD_eq_getElem?_getD]
      have hcg : mn (fun x => (s ++ [max (mn (fun x => s.getD (code - 2 ^ x.toNat) 0) (Jk n code) (-1)) (frC g code)]).getD (j - 2 ^ x.toNat) 0) (Jk n j) (-1) = mn (fun x => s.getD (j - 2 ^ x.toNat) 0) (Jk n j) (-1) := by
       refine zar fun y hy => ?_
       obtain ⟨x, rfl, hx, hb⟩ := Yx.1 hy
       have := Nat.two_pow_pos x
       rw [Int.toNat_natCast, hold _ (by omega)]
      rw [hcg]
      by_cases e : j < code
      · rw [hold j e]; exact i4 j h0 (by omega)
      · obtain rfl : j = code := by omega
        rw [List.getD_eq_getElem?_getD, List.getElem?_append_right (by omega)]
        have : j - s.length = 0 := by omega
        rw [this]; rfl
    · simp only [xm]
      rw [hgn, xY (by omega), Option.bind_some, e1, hcode, decide_eq_true (show (code : Int) < ((2 ^ n : Nat) : Int) by omega), cond_true]
      refine xo (L := fun k2 x b => yR F g s (code : Int) (xm F g k) k2 b x) (n := n) (fun x b => b = mn (fun y => s.getD (code - 2 ^ y.toNat) 0) (zL code.testBit x) (-1)) ?_ ?_ F _ (by omega) rfl
      · intro k2 x b hx hI
        subst hI
        refine ⟨_, rfl, ?_⟩
        obtain ⟨q, q1, q2, _⟩ := za1 (m := code) (j := x) (by omega) (by omega)
        simp only [yR, ui, vm]
        rw [hgn, decide_eq_true (show (x : Int) < (n : Int) by omega), cond_true, q1, Option.bind_some, q2, z3 hx (by unfold Sm; omega)]
        cases hb : code.testBit x with
        | false =>
          rw [cond_false, ZB, hb]; simp
        | true =>
          obtain ⟨s1, _, _⟩ := Qb code (by omega) x (by omega) hb
          have hxp := Nat.two_pow_pos x
          have hw : w64 ((code : Int) - ((2 ^ x : Nat) : Int)) = ((code - 2 ^ x : Nat) : Int) := by rw [xW (by omega) (by omega)]; omega
          rw [cond_true, xY (by omega), Option.bind_some, Option.bind_some, hw, zX (d := 0) (by omega), Option.bind_some, Option.bind_some, ZB, hb, if_pos rfl, NM, Int.toNat_natCast]
          by_cases hl : zL code.testBit x = []
          · rw [hl, zaM, if_pos (.inl rfl), decide_eq_true (by omega)]; rfl
          · have h0 := W2 (nn := -1) (v := fun y => s.getD (code - 2 ^ y.toNat) 0) hl (fun y hy => by
             obtain ⟨z, rfl, hz, hzb⟩ := wd.1 hy
             exact hv _ (Yx.2 ⟨z, rfl, by omega, hzb⟩))
            rw [decide_eq_false (by omega), cond_false]
            by_cases hlt : s.getD (code - 2 ^ x) 0 < mn (fun y => s.getD (code - 2 ^ y.toNat) 0) (zL code.testBit x) (-1)
            · rw [decide_eq_true hlt, cond_true, if_pos (.inr hlt)]
            · rw [decide_eq_false hlt, cond_false, if_neg (fun h => h.elim hl hlt)]
      · intro k2 b hI
        subst hI
        simp only [yR]
        rw [hgn, decide_eq_false (show ¬ (n : Int) < (n : Int) by omega), cond_false, zbQ hn8 (by omega) (by omega), Option.bind_some, hfr, Option.bind_some, zb4, Option.bind_some, YA (by omega), Option.bind_some, yN, xW (by omega) (by omega)]
        have : frC g code = ((yD (frt g code.testBit) n : Nat) : Int) := by unfold frC; rw [hn]
        rw [this]; rfl) (by
    rintro k s ⟨i1, i2, i3⟩
    simp only [xm]
    rw [hgn, xY (by omega), Option.bind_some, decide_eq_false (by omega), cond_false]) F [0] (by omega) ⟨rfl, fun j hj => by
     obtain rfl : j = 0 := by omega
     exact Int.le_refl _, rfl, fun j h1 h2 => absurd h2 (by omega)⟩
 have he' : xm F g F [0] ((0 : Int) + 1) = some s := he
 refine ⟨s, he', by omega, i3.1, fun m h0 hm => i3.2 m h0 (by omega)⟩
theorem zkm {F : Nat} {g : Gr} (hg : y7 g = true) (hF : 300 ≤ F) (hG : g.2.length < F) (hs : Sm g.2.length) : xl F g = xb F ⟨yZ g⟩ ∧ ∃ w, xb F ⟨yZ g⟩ = some w := by
 have h8 := z2 hg
 have hp256 := JF (n := g.1.toNat) (by omega)
 have hpow := Nat.two_pow_pos g.1.toNat
 obtain ⟨out, o1, o2, o3⟩ := My hg hF hG hs
 obtain ⟨best, b1, b2, b3⟩ := WA (F := F) (nn := 0) hg hF
 have heq := QY (n := g.1.toNat) (c := frC g) (by omega) (fun m => Zv) o3 b3
 have hi : xb F ⟨yZ g⟩ = some (best.getD 0 0) := by
  unfold xb
  rw [b1, Option.bind_some]
  have := zX (xs := best) (i := 0) (d := 0) (by omega)
  rw [show ((0 : Nat) : Int) = 0 from rfl] at this
  rw [this, Option.bind_some]
 refine ⟨?_, _, hi⟩
 unfold xl
 have hgn : g.1 = ((g.1.toNat : Nat) : Int) := by omega
 have hsh := xY (j := g.1.toNat) (by omega)
 rw [← hgn] at hsh
 rw [o1, Option.bind_some, hsh, Option.bind_some]
 have hw : w64 (((2 ^ g.1.toNat : Nat) : Int) - 1) = ((2 ^ g.1.toNat - 1 : Nat) : Int) := by rw [xW (by omega) (by omega)]; omega
 rw [hw, zX (d := 0) (by omega), Option.bind_some, hi]
 congr 1
end Go.Zq
