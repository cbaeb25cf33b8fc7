/- Plain mathematics: what the functions answer (part 1). Conditions: stated in each theorem. -/
import Derived.Test.YtikifjdbaggajaaK2
import Derived.Test.YtikifjdbaggajaaGT
set_option linter.unusedVariables false
set_option linter.unusedSimpArgs false
/- Plain mathematics: whole numbers of 64 bits, loops with fuel. -/
namespace Go.Zq

theorem w64_id {x : Int} (h1 : -9223372036854775808 ≤ x) (h2 : x < 9223372036854775808) : w64 x = x := by
  show IntKind.wrap .i64 x = x
  simp only [IntKind.wrap, IntKind.bits, IntKind.signed, Bool.true_and]
  have e1 : ((2 : Int) ^ 64) = 18446744073709551616 := by decide
  have e2 : ((2 : Int) ^ (64 - 1)) = 9223372036854775808 := by decide
  simp only [e1, e2]
  split
  · rename_i h; simp only [ge_iff_le, decide_eq_true_eq] at h; omega
  · rename_i h; simp only [ge_iff_le, decide_eq_true_eq] at h; omega

/-- a list that is not too long -/
def Sm (n : Nat) : Prop := n ≤ 4611686018427387904

theorem w64_succ {i n : Nat} (hi : i < n) (hn : Sm n) : w64 ((i : Int) + 1) = ((i + 1 : Nat) : Int) := by
  unfold Sm at hn
  rw [w64_id (by omega) (by omega)]; omega
theorem w64_pred {i n : Nat} (h0 : 0 < i) (hi : i < n) (hn : Sm n) : w64 ((i : Int) - 1) = ((i - 1 : Nat) : Int) := by
  unfold Sm at hn
  rw [w64_id (by omega) (by omega)]; omega

theorem idx_nat {α : Type} {xs : List α} {i : Nat} (h : i < xs.length) : idx xs (i : Int) = some xs[i] := by
  unfold idx
  rw [if_pos (by omega)]
  simp [h]
theorem idx_getD {α : Type} {xs : List α} {i : Nat} {d : α} (h : i < xs.length) : idx xs (i : Int) = some (xs.getD i d) := by
  rw [idx_nat h]; simp [h]
/-- all numbers below -/
def allN (p : Nat → Bool) : Nat → Bool
  | 0 => true
  | n + 1 => allN p n && p n
theorem allN_iff {p : Nat → Bool} : ∀ {n : Nat}, allN p n = true ↔ ∀ i, i < n → p i = true
  | 0 => by simp [allN]
  | n + 1 => by
    simp only [allN, Bool.and_eq_true, allN_iff]
    constructor
    · rintro ⟨h1, h2⟩ i hi
      by_cases e : i = n
      · subst e; exact h2
      · exact h1 i (by omega)
    · intro h
      exact ⟨fun i hi => h i (by omega), h n (by omega)⟩
theorem allN_congr {p q : Nat → Bool} {n : Nat} (h : ∀ i, i < n → p i = q i) : allN p n = allN q n := by
  rw [Bool.eq_iff_iff, allN_iff, allN_iff]
  constructor
  · intro h1 i hi; rw [← h i hi]; exact h1 i hi
  · intro h1 i hi; rw [h i hi]; exact h1 i hi
/-- a loop that ends early when it meets a bad one -/
theorem loop_all {β : Type} {L : Nat → Int → Option β} {n : Nat} {p : Nat → Bool} {bad fin : Option β} (hs : ∀ k i, i < n → L (k + 1) (i : Int) = bif p i then L k ((i + 1 : Nat) : Int) else bad) (he : ∀ k, L (k + 1) (n : Int) = fin) :
    ∀ k, n < k → L k 0 = bif allN p n then fin else bad := by
  have key : ∀ d k i, i + d = n → d < k → (∀ j, j < i → p j = true) → L k (i : Int) = bif allN p n then fin else bad := by
    intro d
    induction d with
    | zero =>
      intro k i hi hk hp
      obtain ⟨k, rfl⟩ : ∃ k', k = k' + 1 := ⟨k - 1, by omega⟩
      obtain rfl : i = n := by omega
      rw [he, show allN p i = true from allN_iff.2 hp]; rfl
    | succ d ih =>
      intro k i hi hk hp
      obtain ⟨k, rfl⟩ : ∃ k', k = k' + 1 := ⟨k - 1, by omega⟩
      rw [hs k i (by omega)]
      cases hpi : p i with
      | true =>
        simp only [cond_true]
        refine ih k (i + 1) (by omega) (by omega) ?_
        intro j hj
        by_cases e : j = i
        · subst e; exact hpi
        · exact hp j (by omega)
      | false =>
        have : allN p n = false := by
          rw [Bool.eq_false_iff]; intro h
          have := allN_iff.1 h i (by omega); rw [hpi] at this; cases this
        rw [this]; rfl
  intro k hk
  exact key n k 0 (by omega) hk (by simp)

/-- a loop with a state -/
theorem loop_fold {β σ : Type} {L : Nat → Int → σ → Option β} {n : Nat} (I : Nat → σ → Prop) {fin : σ → Option β} (st : Nat → σ → σ)
    (hs : ∀ k i s, i < n → I i s → L (k + 1) (i : Int) s = L k ((i + 1 : Nat) : Int) (st i s)) (hi : ∀ i s, i < n → I i s → I (i + 1) (st i s)) (he : ∀ k s, I n s → L (k + 1) (n : Int) s = fin s) :
    ∀ k s0, n < k → I 0 s0 → ∃ s, I n s ∧ L k 0 s0 = fin s ∧ s = (List.range n).foldl (fun s i => st i s) s0 := by
  have key : ∀ d k i s, i + d = n → d < k → I i s → ∃ s', I n s' ∧ L k (i : Int) s = fin s' ∧ s' = (List.range' i d).foldl (fun s i => st i s) s := by
    intro d
    induction d with
    | zero =>
      intro k i s hi hk hI
      obtain ⟨k, rfl⟩ : ∃ k', k = k' + 1 := ⟨k - 1, by omega⟩
      obtain rfl : i = n := by omega
      exact ⟨s, hI, he k s hI, rfl⟩
    | succ d ih =>
      intro k i s hd hk hI
      obtain ⟨k, rfl⟩ : ∃ k', k = k' + 1 := ⟨k - 1, by omega⟩
      rw [hs k i s (by omega) hI]
      obtain ⟨s', h1, h2, h3⟩ := ih k (i + 1) (st i s) (by omega) (by omega) (hi i s (by omega) hI)
      exact ⟨s', h1, h2, by rw [h3, List.range'_succ]; rfl⟩
  intro k s0 hk hI
  obtain ⟨s', h1, h2, h3⟩ := key n k 0 s0 (by omega) hk hI
  exact ⟨s', h1, h2, by rw [h3, List.range_eq_range']⟩

/-- .. where the state's meaning is all that matters -/
theorem loop_inv {β σ : Type} {L : Nat → Int → σ → Option β} {n : Nat} (I : Nat → σ → Prop) {r : Option β}
    (hs : ∀ k i s, i < n → I i s → ∃ s', I (i + 1) s' ∧ L (k + 1) (i : Int) s = L k ((i + 1 : Nat) : Int) s') (he : ∀ k s, I n s → L (k + 1) (n : Int) s = r) :
    ∀ k s0, n < k → I 0 s0 → L k 0 s0 = r := by
  have key : ∀ d k i s, i + d = n → d < k → I i s → L k (i : Int) s = r := by
    intro d
    induction d with
    | zero =>
      intro k i s hi hk hI
      obtain ⟨k, rfl⟩ : ∃ k', k = k' + 1 := ⟨k - 1, by omega⟩
      obtain rfl : i = n := by omega
      exact he k s hI
    | succ d ih =>
      intro k i s hd hk hI
      obtain ⟨k, rfl⟩ : ∃ k', k = k' + 1 := ⟨k - 1, by omega⟩
      obtain ⟨s', h1, h2⟩ := hs k i s (by omega) hI
      rw [h2]
      exact ih k (i + 1) s' (by omega) (by omega) h1
  intro k s0 hk hI
  exact key n k 0 s0 (by omega) hk hI

theorem mkN_nat {α : Type} {n : Nat} {x : α} (h : n ≤ 1099511627776) : mkN (n : Int) x = some (List.replicate n x) := by
  unfold mkN
  rw [if_pos ⟨by omega, by have : ((2 : Int) ^ 40) = 1099511627776 := by decide
                           omega⟩]
  simp

theorem set_take {α : Type} (xs ys : List α) (i : Nat) (hl : ys.length = xs.length) (hi : i < xs.length) (h : ys.take i = xs.take i) : (ys.set i xs[i]).take (i + 1) = xs.take (i + 1) := by
  rw [List.take_add_one, List.take_add_one, List.take_set_of_le (Nat.le_refl i), h]
  simp [hl, hi]

/-- a loop that goes on up to a place -/
theorem loop_to {β : Type} {L : Nat → Int → Option β} {n : Nat} {r : Option β} (hs : ∀ k i, i < n → L (k + 1) (i : Int) = L k ((i + 1 : Nat) : Int)) (he : ∀ k, L (k + 1) (n : Int) = r) : ∀ k, n < k → L k 0 = r := by
  intro k hk
  exact loop_inv (L := fun k i (_ : Unit) => L k i) (fun _ _ => True) (fun k i s hi _ => ⟨(), trivial, hs k i hi⟩) (fun k s _ => he k) k () hk trivial

end Go.Zq
/- Plain mathematics: copies and comparisons of arguments. -/
namespace Go.Zq

theorem w1 : w64 1 = 1 := by decide
theorem w2 : w64 2 = 2 := by decide

theorem toIntA2_eq {F : Nat} {a : Int × Int} (hF : 3 ≤ F) : w_toIntA2 F a = some a := by
  obtain ⟨k, rfl⟩ : ∃ k, F = k + 3 := ⟨F - 3, by omega⟩
  unfold w_toIntA2
  rw [w_toIntA2_l1]; simp only [idx]
  simp [w_toIntA2_l1, idx, w1, w2]

/-- a list that is copied element by element -/
theorem copied {α : Type} {xs ys : List α} {i : Nat} (h : ys.length = xs.length ∧ ys.take i = xs.take i) (hi : i < xs.length) : (ys.set i xs[i]).length = xs.length ∧ (ys.set i xs[i]).take (i + 1) = xs.take (i + 1) :=
  ⟨by simp [h.1], set_take xs ys i h.1 hi h.2⟩
theorem copied_end {α : Type} {xs ys : List α} (h : ys.length = xs.length ∧ ys.take xs.length = xs.take xs.length) : ys = xs := by
  have := h.2
  rw [List.take_of_length_le (by omega), List.take_of_length_le (by omega)] at this
  exact this

theorem toIntS_eq {F : Nat} {xs : List Int} (hF : xs.length < F) (hl : xs.length ≤ 1099511627776) : w_toIntS F xs = some xs := by
  unfold w_toIntS
  rw [mkN_nat hl, Option.bind_some]
  refine loop_inv (L := fun k i s => w_toIntS_l1 F xs k s i) (n := xs.length) (fun i ys => ys.length = xs.length ∧ ys.take i = xs.take i) ?_ ?_ F _ hF (by simp)
  · intro k i s hi hI
    refine ⟨_, copied hI hi, ?_⟩
    simp only [w_toIntS_l1]
    rw [idx_nat hi, idx_nat (by omega), w64_succ hi (by unfold Sm; omega)]
    simp [hi]
  · intro k s hI
    simp only [w_toIntS_l1]
    rw [copied_end hI]; simp

theorem toIntA2S_eq {F : Nat} {xs : List (Int × Int)} (hF : xs.length < F) (hl : xs.length ≤ 1099511627776) (h3 : 3 ≤ F) : w_toIntA2S F xs = some xs := by
  unfold w_toIntA2S
  rw [mkN_nat hl, Option.bind_some]
  refine loop_inv (L := fun k i s => w_toIntA2S_l1 F xs k s i) (n := xs.length) (fun i ys => ys.length = xs.length ∧ ys.take i = xs.take i) ?_ ?_ F _ hF (by simp)
  · intro k i s hi hI
    refine ⟨_, copied hI hi, ?_⟩
    simp only [w_toIntA2S_l1]
    rw [idx_nat hi, idx_nat (by omega), w64_succ hi (by unfold Sm; omega)]
    simp [hi, toIntA2_eq h3]
  · intro k s hI
    simp only [w_toIntA2S_l1]
    rw [copied_end hI]; simp

theorem toGraph_eq {F : Nat} {g : Int × List (Int × Int)} (hF : g.2.length < F) (hl : g.2.length ≤ 1099511627776) (h3 : 3 ≤ F) : w_toGraph F g = some g := by
  unfold w_toGraph
  rw [toIntA2S_eq hF hl h3]; rfl

theorem eqIntA2_eq {F : Nat} {a : Int × Int} (hF : 3 ≤ F) : w_eqIntA2 F a a = some true := by
  obtain ⟨k, rfl⟩ : ∃ k, F = k + 3 := ⟨F - 3, by omega⟩
  unfold w_eqIntA2
  rw [w_eqIntA2_l1]; simp only [idx]
  simp [w_eqIntA2_l1, idx, w1, w2]

theorem eqIntS_eq {F : Nat} {xs : List Int} (hF : xs.length < F) (hl : Sm xs.length) : w_eqIntS F xs xs = some true := by
  unfold w_eqIntS
  simp only [bne_self_eq_false, cond_false]
  rw [loop_all (L := fun k i => w_eqIntS_l1 F xs xs k i) (n := xs.length) (p := fun _ => true) (bad := none) (fin := some true) ?_ ?_ F hF]
  · rw [allN_iff.2 (fun _ _ => rfl)]; rfl
  · intro k i hi
    simp only [w_eqIntS_l1]
    rw [idx_nat hi, w64_succ hi hl]
    simp [hi]
  · intro k; simp [w_eqIntS_l1]

theorem eqIntA2S_eq {F : Nat} {xs : List (Int × Int)} (hF : xs.length < F) (hl : Sm xs.length) (h3 : 3 ≤ F) : w_eqIntA2S F xs xs = some true := by
  unfold w_eqIntA2S
  simp only [bne_self_eq_false, cond_false]
  rw [loop_all (L := fun k i => w_eqIntA2S_l1 F xs xs k i) (n := xs.length) (p := fun _ => true) (bad := none) (fin := some true) ?_ ?_ F hF]
  · rw [allN_iff.2 (fun _ _ => rfl)]; rfl
  · intro k i hi
    simp only [w_eqIntA2S_l1]
    rw [idx_nat hi, w64_succ hi hl]
    simp [hi, eqIntA2_eq h3]
  · intro k; simp [w_eqIntA2S_l1]

theorem eqGraph_eq {F : Nat} {g : Int × List (Int × Int)} (hF : g.2.length < F) (hl : Sm g.2.length) (h3 : 3 ≤ F) : w_eqGraph F g g = some true := by
  unfold w_eqGraph
  simp [eqIntA2S_eq hF hl h3]

/-- the size guard: either it lets the law end, or the graph has few edges -/
theorem szGraph_eq {F : Nat} {g : Int × List (Int × Int)} {l : Int} (h0 : 0 ≤ l) (hl : l ≤ 1048576) (hm : g.2.length ≤ 9223372036854775807) : w_szGraph F g l = some (if l - g.2.length < 0 then -1 else l - g.2.length) := by
  unfold w_szGraph w_szIntA2S
  rw [w64_id (by omega) (by omega)]
  by_cases h : l - (g.2.length : Int) < 0
  · simp [h]
  · simp [h]

end Go.Zq
/- Plain mathematics: sets of nodes as whole numbers. -/
namespace Go.Zq

theorem w64_nat {n : Nat} (h : n < 9223372036854775808) : w64 (n : Int) = n := w64_id (by omega) (by omega)

theorem bv_nat (n : Nat) (h : n < 9223372036854775808) : (BitVec.ofInt (IntKind.bits .i64) (n : Int)).toNat = n := by
  show (BitVec.ofInt 64 (n : Int)).toNat = n
  rw [BitVec.ofInt_natCast, BitVec.toNat_ofNat]
  exact Nat.mod_eq_of_lt (by omega)

theorem ior_nat {a b : Nat} (ha : a < 9223372036854775808) (hb : b < 9223372036854775808) : ior .i64 a b = ((a ||| b : Nat) : Int) := by
  unfold ior
  rw [BitVec.toNat_or, bv_nat a ha, bv_nat b hb]
  exact w64_nat (Nat.or_lt_two_pow (n := 63) ha hb)
theorem shl_nat {a j : Nat} (hj : j ≤ 62) (ha : a * 2 ^ j < 9223372036854775808) : shlI .i64 (a : Int) (j : Int) = some (((a * 2 ^ j : Nat)) : Int) := by
  unfold shlI
  rw [if_neg (by omega)]
  have e : (min (j : Int).toNat (IntKind.bits .i64)) = j := by
    simp only [Int.toNat_natCast]
    exact Nat.min_eq_left (by show j ≤ 64; omega)
  rw [e]
  have := w64_nat ha
  rw [show ((a : Int) * 2 ^ j) = ((a * 2 ^ j : Nat) : Int) by simp]
  rw [show IntKind.i64.wrap ((a * 2 ^ j : Nat) : Int) = w64 ((a * 2 ^ j : Nat) : Int) from rfl, this]

theorem one_shl {j : Nat} (hj : j ≤ 62) : shlI .i64 1 (j : Int) = some ((2 ^ j : Nat) : Int) := by
  have h : 1 * 2 ^ j < 9223372036854775808 := by
    have := Nat.pow_le_pow_right (n := 2) (by decide) hj
    have e : (2 : Nat) ^ 62 = 4611686018427387904 := by decide
    omega
  have := shl_nat (a := 1) hj h
  simpa using this

theorem pow_lt {j : Nat} (hj : j ≤ 62) : (2 : Nat) ^ j < 9223372036854775808 := by
  have := Nat.pow_le_pow_right (n := 2) (by decide) hj
  have e : (2 : Nat) ^ 62 = 4611686018427387904 := by decide
  omega

/-- a number that has exactly these nodes as digits -/
def IsMask (m : Nat) (p : Nat → Bool) : Prop := m < 9223372036854775808 ∧ ∀ j, m.testBit j = p j

theorem isMask_all {n : Nat} (hn : n ≤ 62) : IsMask (2 ^ n - 1) (fun j => decide (j < n)) :=
  ⟨by have := pow_lt hn; omega, fun j => by rw [Nat.testBit_two_pow_sub_one]⟩

theorem cover_len : ∀ (n : Nat) (l : List Int), (∀ j, j < n → (j : Int) ∈ l) → n ≤ l.length ∧ (l.length = n → ∀ y ∈ l, 0 ≤ y ∧ y < n)
  | 0, l, _ => ⟨Nat.zero_le _, fun h y hy => by rw [List.length_eq_zero_iff.1 h] at hy; cases hy⟩
  | n + 1, l, h => by
    have hn := h n (by omega)
    have hp := List.length_pos_of_mem hn
    have ih := cover_len n (l.erase (n : Int)) (fun j hj => (List.mem_erase_of_ne (by omega)).2 (h j (by omega)))
    rw [List.length_erase_of_mem hn] at ih
    refine ⟨by omega, fun hl y hy => ?_⟩
    by_cases e : y = n
    · subst e; omega
    · have := ih.2 (by omega) y ((List.mem_erase_of_ne e).2 hy)
      omega

end Go.Zq
/- Plain mathematics: valid graphs, orders. -/
namespace Go.Zq

abbrev Gr := Int × List (Int × Int)

theorem within_eq {F : Nat} {n lo hi : Int} : i_within F n lo hi = some (decide (lo ≤ n) && decide (n ≤ hi)) := by
  unfold i_within
  by_cases h : n ≥ lo
  · simp [h]
  · have : ¬ lo ≤ n := h
    simp [this]
theorem l1In_eq {F : Nat} {n lo hi : Int} : s_l1In F n lo hi = some (decide (lo ≤ n) && decide (n ≤ hi)) := by
  unfold s_l1In
  by_cases h : n ≥ lo
  · simp [h]
  · have : ¬ lo ≤ n := h
    simp [this]

def bef (a b : Int × Int) : Bool := decide (a.1 < b.1) || (a.1 == b.1) && decide (a.2 < b.2)
theorem l2Before_eq {F : Nat} {a b : Int × Int} : s_l2Before F a b = some (bef a b) := by
  unfold s_l2Before bef
  by_cases h : a.1 < b.1
  · simp [h]
  · cases e : (a.1 == b.1) <;> simp [h]

theorem cmp_eq {F : Nat} {x y : Int} : cmp_Compare_int F x y = some (if x < y then -1 else if x > y then 1 else 0) := by
  unfold cmp_Compare_int cmp_isNaN_int
  by_cases h : x < y
  · simp [h]
  · by_cases h2 : y < x <;> simp [h, h2]

theorem cmp2_eq {F : Nat} {a b : Int × Int} (hF : 3 ≤ F) : ∃ r, slices_Compare F [a.1, a.2] [b.1, b.2] = some r ∧ (decide (r ≥ 0) = !bef a b) := by
  obtain ⟨k, rfl⟩ : ∃ k, F = k + 3 := ⟨F - 3, by omega⟩
  obtain ⟨a1, a2⟩ := a
  obtain ⟨b1, b2⟩ := b
  unfold slices_Compare
  simp only [slices_Compare_l1, cmp_eq, bef]
  by_cases h1 : a1 < b1
  · refine ⟨-1, ?_, ?_⟩ <;> simp [idx, h1]
  · by_cases h2 : b1 < a1
    · have e : ¬ a1 = b1 := by omega
      refine ⟨1, ?_, ?_⟩
      · simp [idx, h1, h2]
      · simp [h1, e]
    · obtain rfl : a1 = b1 := by omega
      by_cases h3 : a2 < b2
      · refine ⟨-1, ?_, ?_⟩ <;> simp [idx, h3, w1]
      · by_cases h4 : b2 < a2
        · refine ⟨1, ?_, ?_⟩ <;> simp [idx, h3, h4, w1]
        · obtain rfl : a2 = b2 := by omega
          refine ⟨0, ?_, ?_⟩ <;> simp [idx, w1, w2]

/-- an edge that stands where it may -/
def okE (n : Int) (es : List (Int × Int)) (i : Nat) : Bool :=
  decide (0 ≤ (es.getD i (0, 0)).1) && decide ((es.getD i (0, 0)).1 < (es.getD i (0, 0)).2) && decide ((es.getD i (0, 0)).2 < n) && (i == 0 || bef (es.getD (i - 1) (0, 0)) (es.getD i (0, 0)))

/-- a valid graph -/
def good (g : Gr) : Bool := decide (0 ≤ g.1) && decide (g.1 ≤ 8) && allN (okE g.1 g.2) g.2.length

theorem isGraph_eq {F : Nat} {g : Gr} (hF : g.2.length < F) (h3 : 3 ≤ F) (hl : Sm g.2.length) : i_IsGraph F g = some (good g) := by
  unfold i_IsGraph
  rw [within_eq, Option.bind_some]
  unfold good
  by_cases h : 0 ≤ g.1 ∧ g.1 ≤ 8
  · simp only [h.1, h.2, decide_true, Bool.and_self, Bool.not_true, cond_false, Bool.true_and]
    rw [loop_all (L := fun k i => i_IsGraph_l1 F g k i) (n := g.2.length) (p := okE g.1 g.2) (bad := some false) (fin := some true) ?_ ?_ F hF]
    · cases allN (okE g.1 g.2) g.2.length <;> rfl
    · intro k i hi
      simp only [i_IsGraph_l1, i_IsGraph_j3]
      rw [idx_getD (d := (0, 0)) hi, w64_succ hi hl]
      have hlt : decide ((i : Int) < g.2.length) = true := by simp [hi]
      simp only [hlt, cond_true, Option.bind_some, okE]
      generalize g.2.getD i (0, 0) = e
      by_cases h1 : e.1 < 0
      · have : ¬ 0 ≤ e.1 := by omega
        simp [h1, this]
      · by_cases h2 : e.1 ≥ e.2
        · have : ¬ e.1 < e.2 := by omega
          simp [h1, h2, this]
        · by_cases h4 : e.2 ≥ g.1
          · have : ¬ e.2 < g.1 := by omega
            simp [h1, h2, h4, this]
          · have a1 : 0 ≤ e.1 := by omega
            have a2 : e.1 < e.2 := by omega
            have a3 : e.2 < g.1 := by omega
            simp only [h1, h2, h4, a1, a2, a3, decide_true, decide_false, cond_false, Bool.and_self, Bool.true_and]
            by_cases h5 : i = 0
            · subst h5; simp
            · have h6 : decide ((i : Int) > 0) = true := by simp; omega
              have h7 : (i == 0) = false := by simpa using h5
              rw [h6, cond_true, w64_pred (by omega) hi hl, idx_getD (d := (0, 0)) (by omega), h7]
              obtain ⟨r, hr, hr2⟩ := cmp2_eq (F := F) (a := g.2.getD (i - 1) (0, 0)) (b := e) h3
              simp only [Option.bind_some, hr, hr2, Bool.false_or]
              cases bef (g.2.getD (i - 1) (0, 0)) e <;> rfl
    · intro k; simp [i_IsGraph_l1]
  · have : (decide (0 ≤ g.1) && decide (g.1 ≤ 8)) = false := by
      rw [Bool.eq_false_iff]; intro h'; apply h; simpa using h'
    simp [this]

theorem l2Good_eq {F : Nat} {g : Gr} (hF : g.2.length < F) (hl : Sm g.2.length) : s_l2Good F g = some (good g) := by
  unfold s_l2Good
  let p : Nat → Bool := fun i => decide (0 ≤ (g.2.getD i (0, 0)).1) && decide ((g.2.getD i (0, 0)).1 ≤ w64 (g.1 - 1)) && (decide (0 ≤ (g.2.getD i (0, 0)).2) && decide ((g.2.getD i (0, 0)).2 ≤ w64 (g.1 - 1))) && decide ((g.2.getD i (0, 0)).1 < (g.2.getD i (0, 0)).2) && (i == 0 || bef (g.2.getD (i - 1) (0, 0)) (g.2.getD i (0, 0)))
  rw [loop_all (L := fun k i => s_l2Good_l1 F g k i) (n := g.2.length) (p := p) (bad := some false) (fin := some (decide (0 ≤ g.1) && decide (g.1 ≤ 8))) ?_ ?_ F hF]
  · unfold good
    by_cases h : 0 ≤ g.1 ∧ g.1 ≤ 8
    · have hw : w64 (g.1 - 1) = g.1 - 1 := w64_id (by omega) (by omega)
      rw [allN_congr (q := okE g.1 g.2)]
      · cases allN (okE g.1 g.2) g.2.length <;> simp [h.1, h.2]
      · intro i _
        simp only [p, okE, hw]
        generalize g.2.getD i (0, 0) = e
        generalize (i == 0 || bef (g.2.getD (i - 1) (0, 0)) e) = b
        rw [Bool.eq_iff_iff]
        simp only [Bool.and_eq_true, decide_eq_true_eq]
        constructor
        · rintro ⟨⟨⟨⟨a1, a2⟩, a3, a4⟩, a5⟩, a6⟩; exact ⟨⟨⟨a1, a5⟩, by omega⟩, a6⟩
        · rintro ⟨⟨⟨a1, a5⟩, a4⟩, a6⟩; exact ⟨⟨⟨⟨a1, by omega⟩, by omega, by omega⟩, a5⟩, a6⟩
    · have : (decide (0 ≤ g.1) && decide (g.1 ≤ 8)) = false := by
        rw [Bool.eq_false_iff]; intro h'; apply h; simpa using h'
      rw [this]; cases allN p g.2.length <;> rfl
  · intro k i hi
    simp only [s_l2Good_l1, s_l2Good_j3, l1In_eq, Option.bind_some]
    rw [idx_getD (d := (0, 0)) hi, w64_succ hi hl]
    have hlt : decide ((i : Int) < g.2.length) = true := by simp [hi]
    simp only [hlt, cond_true, Option.bind_some, p]
    generalize g.2.getD i (0, 0) = e
    generalize (decide (0 ≤ e.1) && decide (e.1 ≤ w64 (g.1 - 1))) = b1
    generalize (decide (0 ≤ e.2) && decide (e.2 ≤ w64 (g.1 - 1))) = b2
    cases b1
    · rfl
    cases b2
    · rfl
    by_cases h2 : e.1 ≥ e.2
    · have : ¬ e.1 < e.2 := by omega
      simp [h2, this]
    · have : e.1 < e.2 := by omega
      simp only [Bool.not_true, cond_false, h2, this, decide_true, decide_false, Bool.and_self, Bool.true_and]
      by_cases h5 : i = 0
      · subst h5; simp
      · have h6 : decide ((i : Int) > 0) = true := by simp; omega
        have h7 : (i == 0) = false := by simpa using h5
        rw [h6, cond_true, w64_pred (by omega) hi hl, idx_getD (d := (0, 0)) (by omega), h7]
        simp only [Option.bind_some, l2Before_eq, Bool.false_or]
        cases bef (g.2.getD (i - 1) (0, 0)) e <;> rfl
  · intro k; simp [s_l2Good_l1, l1In_eq]

theorem good_size {g : Gr} (h : good g = true) : 0 ≤ g.1 ∧ g.1 ≤ 8 := by
  unfold good at h
  simp only [Bool.and_eq_true, decide_eq_true_eq] at h
  exact h.1

theorem l1Has_eq {F : Nat} {l : List Int} {n : Int} (hF : l.length < F) (hl : Sm l.length) : s_l1Has F l n = some (decide (n ∈ l)) := by
  unfold s_l1Has
  rw [loop_all (L := fun k i => s_l1Has_l1 F l n k i) (n := l.length) (p := fun i => !(l.getD i 0 == n)) (bad := some true) (fin := some false) ?_ ?_ F hF]
  · by_cases h : n ∈ l
    · have : allN (fun i => !(l.getD i 0 == n)) l.length = false := by
        rw [Bool.eq_false_iff]; intro h'
        obtain ⟨i, hi, e⟩ := List.mem_iff_getElem.1 h
        have := allN_iff.1 h' i hi
        simp [List.getD_eq_getElem?_getD, hi, e] at this
      rw [this]; simp [h]
    · have : allN (fun i => !(l.getD i 0 == n)) l.length = true := by
        rw [allN_iff]; intro i hi
        simp only [List.getD_eq_getElem?_getD, List.getElem?_eq_getElem hi, Option.getD_some, Bool.not_eq_true', beq_eq_false_iff_ne]
        intro e; exact h (e ▸ List.getElem_mem hi)
      rw [this]; simp [h]
  · intro k i hi
    simp only [s_l1Has_l1]
    rw [idx_getD (d := 0) hi, w64_succ hi hl]
    have hlt : decide ((i : Int) < l.length) = true := by simp [hi]
    simp only [hlt, cond_true, Option.bind_some]
    cases (l.getD i 0 == n) <;> rfl
  · intro k; simp [s_l1Has_l1]

/-- a list that has each node once -/
def isOrd (n : Int) (l : List Int) : Bool := decide ((l.length : Int) = n) && allN (fun j => decide ((j : Int) ∈ l)) n.toNat

theorem l2Each_eq {F : Nat} {g : Gr} {l : List Int} (h0 : 0 ≤ g.1) (h8 : g.1 ≤ 8) (hF : l.length < F) (h9 : 9 ≤ F) (hl : Sm l.length) : s_l2Each F g l = some (isOrd g.1 l) := by
  unfold s_l2Each
  obtain ⟨n, hn⟩ : ∃ n : Nat, g.1 = n := ⟨g.1.toNat, by omega⟩
  rw [loop_all (L := fun k i => s_l2Each_l1 F l g k i) (n := n) (p := fun j => decide ((j : Int) ∈ l)) (bad := some false) (fin := some ((l.length : Int) == n)) ?_ ?_ F (by omega)]
  · unfold isOrd
    rw [hn]
    simp only [Int.toNat_natCast]
    cases allN (fun j => decide ((j : Int) ∈ l)) n <;> simp
    rfl
  · intro k i hi
    simp only [s_l2Each_l1, l1Has_eq hF hl, hn]
    rw [w64_succ hi (by unfold Sm; omega)]
    have hlt : decide ((i : Int) < (n : Int)) = true := by simp [hi]
    simp only [hlt, cond_true, Option.bind_some]
    cases decide ((i : Int) ∈ l) <;> rfl
  · intro k; simp [s_l2Each_l1, hn]

theorem allWithin_eq {F : Nat} {l : List Int} {lo hi : Int} (hF : l.length < F) (hl : Sm l.length) : i_allWithin F l lo hi = some (l.all fun x => decide (lo ≤ x) && decide (x ≤ hi)) := by
  unfold i_allWithin
  rw [loop_all (L := fun k i => i_allWithin_l1 F lo hi l k i) (n := l.length) (p := fun i => decide (lo ≤ l.getD i 0) && decide (l.getD i 0 ≤ hi)) (bad := some false) (fin := some true) ?_ ?_ F hF]
  · have : allN (fun i => decide (lo ≤ l.getD i 0) && decide (l.getD i 0 ≤ hi)) l.length = l.all fun x => decide (lo ≤ x) && decide (x ≤ hi) := by
      rw [Bool.eq_iff_iff, allN_iff, List.all_eq_true]
      constructor
      · intro h x hx
        obtain ⟨i, hi, rfl⟩ := List.mem_iff_getElem.1 hx
        have := h i hi
        simpa [List.getD_eq_getElem?_getD, hi] using this
      · intro h i hi
        simpa [List.getD_eq_getElem?_getD, hi] using h l[i] (List.getElem_mem hi)
    rw [this]; cases (l.all fun x => decide (lo ≤ x) && decide (x ≤ hi)) <;> rfl
  · intro k i hi
    simp only [i_allWithin_l1, within_eq]
    rw [idx_getD (d := 0) hi, w64_succ hi hl]
    have hlt : decide ((i : Int) < l.length) = true := by simp [hi]
    simp only [hlt, cond_true, Option.bind_some]
    cases (decide (lo ≤ l.getD i 0) && decide (l.getD i 0 ≤ _)) <;> rfl
  · intro k; simp [i_allWithin_l1]

theorem maskOf_eq {F : Nat} {l : List Int} (hF : l.length < F) (hl : Sm l.length) (h : ∀ x ∈ l, 0 ≤ x ∧ x ≤ 62) : ∃ m : Nat, i_maskOf F l = some (m : Int) ∧ IsMask m (fun j => decide ((j : Int) ∈ l)) := by
  unfold i_maskOf
  have key : ∃ s : Int, (∃ m : Nat, s = (m : Int) ∧ m < 9223372036854775808 ∧ ∀ j, m.testBit j = decide ((j : Int) ∈ l.take l.length)) ∧ i_maskOf_l1 F l F 0 0 = some s := by
    refine Exists.imp (fun s h => ⟨h.1, h.2.1⟩) (loop_fold (L := fun k i s => i_maskOf_l1 F l k s i) (n := l.length) (fun i s => ∃ m : Nat, s = (m : Int) ∧ m < 9223372036854775808 ∧ ∀ j, m.testBit j = decide ((j : Int) ∈ l.take i)) (fin := fun s => some s)
      (fun i s => ior .i64 s ((2 ^ (l.getD i 0).toNat : Nat) : Int)) ?_ ?_ ?_ F 0 hF ⟨0, rfl, by omega, by simp⟩)
    · rintro k i s hi ⟨m, rfl, hm1, hm2⟩
      simp only [i_maskOf_l1]
      rw [idx_getD (d := 0) hi, w64_succ hi hl]
      have hlt : decide ((i : Int) < l.length) = true := by simp [hi]
      simp only [hlt, cond_true, Option.bind_some]
      have hx := h (l.getD i 0) (by rw [List.getD_eq_getElem?_getD, List.getElem?_eq_getElem hi]; exact List.getElem_mem hi)
      obtain ⟨x, hx'⟩ : ∃ x : Nat, l.getD i 0 = x := ⟨(l.getD i 0).toNat, by omega⟩
      rw [hx', one_shl (by omega)]; simp
    · rintro i s hi ⟨m, rfl, hm1, hm2⟩
      have hx := h (l.getD i 0) (by rw [List.getD_eq_getElem?_getD, List.getElem?_eq_getElem hi]; exact List.getElem_mem hi)
      obtain ⟨x, hx'⟩ : ∃ x : Nat, l.getD i 0 = x := ⟨(l.getD i 0).toNat, by omega⟩
      rw [hx', Int.toNat_natCast, ior_nat hm1 (pow_lt (by omega))]
      refine ⟨_, rfl, Nat.or_lt_two_pow (n := 63) hm1 (pow_lt (by omega)), fun j => ?_⟩
      rw [Nat.testBit_or, hm2, Nat.testBit_two_pow, List.take_add_one, List.getElem?_eq_getElem hi]
      have : l[i] = x := by rw [← hx', List.getD_eq_getElem?_getD, List.getElem?_eq_getElem hi]; rfl
      rw [Bool.eq_iff_iff]
      simp [this]
      constructor
      · rintro (h | h)
        · exact .inl h
        · exact .inr (by omega)
      · rintro (h | h)
        · exact .inl h
        · exact .inr (by omega)
    · rintro k s ⟨m, rfl, hm1, hm2⟩
      simp [i_maskOf_l1]
  obtain ⟨s, ⟨m, rfl, hm1, hm2⟩, h2⟩ := key
  exact ⟨m, h2, hm1, by simpa using hm2⟩

theorem isOrder_eq {F : Nat} {g : Gr} {l : List Int} (h0 : 0 ≤ g.1) (h8 : g.1 ≤ 8) (hF : l.length < F) (hl : Sm l.length) : i_isOrder F g l = some (isOrd g.1 l) := by
  unfold i_isOrder isOrd
  obtain ⟨n, hn⟩ : ∃ n : Nat, g.1 = n := ⟨g.1.toNat, by omega⟩
  have hw : w64 (g.1 - 1) = g.1 - 1 := w64_id (by omega) (by omega)
  rw [allWithin_eq hF hl, hw, hn]
  by_cases e : l.length = n
  · have e' : ((l.length : Int) == (n : Int)) = true := by simp [e]
    simp only [e', cond_true, Option.bind_some, Int.toNat_natCast]
    by_cases ha : (l.all fun x => decide (0 ≤ x) && decide (x ≤ (n : Int) - 1)) = true
    · rw [ha, cond_true]
      have ha' : ∀ x ∈ l, 0 ≤ x ∧ x ≤ 62 := by
        intro x hx; have := List.all_eq_true.1 ha x hx; simp at this; omega
      obtain ⟨m, hm, hmask⟩ := maskOf_eq hF hl ha'
      rw [hm, Option.bind_some, one_shl (by omega), Option.bind_some]
      have hw2 : w64 (((2 ^ n : Nat) : Int) - 1) = ((2 ^ n - 1 : Nat) : Int) := by
        have := pow_lt (j := n) (by omega)
        have : 0 < 2 ^ n := Nat.two_pow_pos n
        rw [w64_id (by omega) (by omega)]; omega
      rw [hw2]
      congr 1
      rw [Bool.eq_iff_iff]
      have hall := isMask_all (n := n) (by omega)
      simp only [beq_iff_eq, Bool.and_eq_true, decide_eq_true_eq, allN_iff]
      constructor
      · intro h
        have h' : m = 2 ^ n - 1 := by omega
        refine ⟨by omega, fun j hj => ?_⟩
        have := hmask.2 j
        rw [h', hall.2] at this
        simpa [hj] using this.symm
      · rintro ⟨_, h⟩
        have : m = 2 ^ n - 1 := by
          apply Nat.eq_of_testBit_eq
          intro j
          rw [hmask.2, hall.2]
          by_cases hj : j < n
          · simp [hj, h j hj]
          · simp only [hj, decide_false, decide_eq_false_iff_not]
            intro hm'
            have := List.all_eq_true.1 ha _ hm'
            simp at this; omega
        rw [this]
    · rw [Bool.not_eq_true] at ha
      rw [ha, cond_false]
      congr 1
      symm
      rw [Bool.eq_false_iff]; intro h
      simp only [Bool.and_eq_true, decide_eq_true_eq, allN_iff] at h
      have := (cover_len n l h.2).2 e
      have h2 : (l.all fun x => decide (0 ≤ x) && decide (x ≤ (n : Int) - 1)) = true := by
        rw [List.all_eq_true]; intro x hx; have := this x hx; simp; omega
      rw [ha] at h2; cases h2
  · have e' : ((l.length : Int) == (n : Int)) = false := by simp; omega
    have e2 : decide ((l.length : Int) = (n : Int)) = false := by simp; omega
    rw [e', e2]; simp

end Go.Zq
/- Plain mathematics: places in a list; the bandwidth of a layout. -/
namespace Go.Zq

theorem idxOf_at {l : List Int} {x : Int} (h : x ∈ l) : l.idxOf x < l.length ∧ l.getD (l.idxOf x) 0 = x ∧ ∀ j, j < l.idxOf x → l.getD j 0 ≠ x := by
  have hl := List.idxOf_lt_length_of_mem h
  refine ⟨hl, ?_, ?_⟩
  · rw [List.getD_eq_getElem?_getD, List.getElem?_eq_getElem hl]
    exact List.getElem_idxOf hl
  · intro j hj e
    have hj' : j < l.length := by omega
    rw [List.getD_eq_getElem?_getD, List.getElem?_eq_getElem hj'] at e
    have := List.not_of_lt_findIdx (p := (· == x)) (xs := l) (i := j) hj
    simp at e
    simp [e] at this

theorem index_eq {F : Nat} {l : List Int} {x : Int} (hF : l.length < F) (hl : Sm l.length) (h : x ∈ l) : slices_Index F l x = some (l.idxOf x : Int) := by
  obtain ⟨h1, h2, h3⟩ := idxOf_at h
  unfold slices_Index
  refine loop_to (L := fun k i => slices_Index_l1 F l x k i) (n := l.idxOf x) ?_ ?_ F (by omega)
  · intro k i hi
    simp only [slices_Index_l1]
    rw [idx_getD (d := 0) (by omega), w64_succ (n := l.length) (by omega) hl]
    have hlt : decide ((i : Int) < l.length) = true := by simp; omega
    have hne : (x == l.getD i 0) = false := by
      rw [beq_eq_false_iff_ne]; exact fun e => h3 i hi e.symm
    simp only [hlt, cond_true, Option.bind_some, hne, cond_false]
  · intro k
    simp only [slices_Index_l1]
    rw [idx_getD (d := 0) h1, h2]
    have hlt : decide ((l.idxOf x : Int) < l.length) = true := by simp; omega
    simp [h1]

theorem place_eq {F : Nat} {l : List Int} {x : Int} (hF : l.length < F) (hl : Sm l.length) (h : x ∈ l) : s_l7Place F l x = some (l.idxOf x : Int) := by
  obtain ⟨h1, h2, h3⟩ := idxOf_at h
  unfold s_l7Place
  refine loop_to (L := fun k i => s_l7Place_l1 F l x k i) (n := l.idxOf x) ?_ ?_ F (by omega)
  · intro k i hi
    simp only [s_l7Place_l1]
    rw [idx_getD (d := 0) (by omega), w64_succ (n := l.length) (by omega) hl]
    have hne : (l.getD i 0 != x) = true := by simpa using h3 i hi
    simp only [Option.bind_some, hne, cond_true]
  · intro k
    simp only [s_l7Place_l1]
    rw [idx_getD (d := 0) h1, h2]
    simp

theorem most_eq {F : Nat} {a b : Int} : s_l1Most F a b = some (max a b) := by
  unfold s_l1Most
  by_cases h : a > b
  · simp [h]; omega
  · simp [h]; omega

/-- how far an edge goes in a layout -/
def far (l : List Int) (e : Int × Int) : Int := max ((l.idxOf e.1 : Int) - l.idxOf e.2) ((l.idxOf e.2 : Int) - l.idxOf e.1)
def bandF (l : List Int) (es : List (Int × Int)) : Int := (List.range es.length).foldl (fun s i => max s (far l (es.getD i (0, 0)))) 0

theorem okE_at {n : Int} {es : List (Int × Int)} (h : allN (okE n es) es.length = true) {i : Nat} (hi : i < es.length) : 0 ≤ (es.getD i (0, 0)).1 ∧ (es.getD i (0, 0)).1 < (es.getD i (0, 0)).2 ∧ (es.getD i (0, 0)).2 < n := by
  have := allN_iff.1 h i hi
  unfold okE at this
  simp only [Bool.and_eq_true, decide_eq_true_eq] at this
  exact ⟨this.1.1.1, this.1.1.2, this.1.2⟩

theorem good_edge {g : Gr} (h : good g = true) {i : Nat} (hi : i < g.2.length) : 0 ≤ (g.2.getD i (0, 0)).1 ∧ (g.2.getD i (0, 0)).1 < (g.2.getD i (0, 0)).2 ∧ (g.2.getD i (0, 0)).2 < g.1 := by
  unfold good at h
  simp only [Bool.and_eq_true] at h
  exact okE_at h.2 hi

theorem isOrd_mem {n : Int} {l : List Int} (h : isOrd n l = true) {x : Int} (h0 : 0 ≤ x) (hx : x < n) : x ∈ l := by
  unfold isOrd at h
  simp only [Bool.and_eq_true, allN_iff, decide_eq_true_eq] at h
  have := h.2 x.toNat (by omega)
  rwa [Int.toNat_of_nonneg h0] at this
theorem isOrd_len {n : Int} {l : List Int} (h : isOrd n l = true) : (l.length : Int) = n := by
  unfold isOrd at h
  simp only [Bool.and_eq_true, decide_eq_true_eq] at h
  exact h.1

theorem sBand_eq {F : Nat} {g : Gr} {l : List Int} (hg : good g = true) (ho : isOrd g.1 l = true) (hF : l.length < F) (hG : g.2.length < F) (hl : Sm l.length) (hs : Sm g.2.length) : s_l7Band F g l = some (bandF l g.2) := by
  have h8 := good_size hg
  have hlen := isOrd_len ho
  unfold s_l7Band
  obtain ⟨s, _, h2, h3⟩ : ∃ s : Int, True ∧ s_l7Band_l1 F l g F 0 0 = some s ∧ s = bandF l g.2 := by
    refine loop_fold (L := fun k i s => s_l7Band_l1 F l g k s i) (n := g.2.length) (fun _ _ => True) (fin := fun s => some s) (fun i s => max s (far l (g.2.getD i (0, 0)))) ?_ (fun _ _ _ _ => trivial) ?_ F 0 hG trivial
    · intro k i s hi _
      obtain ⟨e1, e2, e3⟩ := good_edge hg hi
      simp only [s_l7Band_l1]
      rw [idx_getD (d := (0, 0)) hi, w64_succ hi hs]
      have hlt : decide ((i : Int) < g.2.length) = true := by simp [hi]
      have m1 : (g.2.getD i (0, 0)).1 ∈ l := isOrd_mem ho e1 (by omega)
      have m2 : (g.2.getD i (0, 0)).2 ∈ l := isOrd_mem ho (by omega) e3
      have i1 := (idxOf_at m1).1
      have i2 := (idxOf_at m2).1
      simp only [hlt, cond_true, Option.bind_some, place_eq hF hl m1, place_eq hF hl m2, most_eq]
      rw [w64_id (by omega) (by omega), w64_id (by omega) (by omega)]
      rfl
    · intro k s _; simp [s_l7Band_l1]
  rw [h2, h3]

theorem iBand_eq {F : Nat} {g : Gr} {l : List Int} (hg : good g = true) (ho : isOrd g.1 l = true) (hF : l.length < F) (hG : g.2.length < F) (hl : Sm l.length) (hs : Sm g.2.length) : i_BandwidthOf_l1 F l g F 0 0 = some (bandF l g.2, true) := by
  have h8 := good_size hg
  have hlen := isOrd_len ho
  obtain ⟨s, _, h2, h3⟩ : ∃ s : Int, True ∧ i_BandwidthOf_l1 F l g F 0 0 = some (s, true) ∧ s = bandF l g.2 := by
    refine loop_fold (L := fun k i s => i_BandwidthOf_l1 F l g k s i) (n := g.2.length) (fun _ _ => True) (fin := fun s => some (s, true)) (fun i s => max s (far l (g.2.getD i (0, 0)))) ?_ (fun _ _ _ _ => trivial) ?_ F 0 hG trivial
    · intro k i s hi _
      obtain ⟨e1, e2, e3⟩ := good_edge hg hi
      simp only [i_BandwidthOf_l1]
      rw [idx_getD (d := (0, 0)) hi, w64_succ hi hs]
      have hlt : decide ((i : Int) < g.2.length) = true := by simp [hi]
      have m1 : (g.2.getD i (0, 0)).1 ∈ l := isOrd_mem ho e1 (by omega)
      have m2 : (g.2.getD i (0, 0)).2 ∈ l := isOrd_mem ho (by omega) e3
      have i1 := (idxOf_at m1).1
      have i2 := (idxOf_at m2).1
      simp only [hlt, cond_true, Option.bind_some, index_eq hF hl m1, index_eq hF hl m2]
      rw [w64_id (x := (l.idxOf (g.2.getD i (0, 0)).1 : Int) - (l.idxOf (g.2.getD i (0, 0)).2 : Int)) (by omega) (by omega), w64_id (by omega) (by omega)]
      congr 1
      unfold far
      generalize ((l.idxOf (g.2.getD i (0, 0)).1 : Nat) : Int) = a
      generalize ((l.idxOf (g.2.getD i (0, 0)).2 : Nat) : Int) = b
      split <;> split <;> omega
    · intro k s _; simp [i_BandwidthOf_l1]
  rw [h2, h3]

theorem sBandwidthOf_eq {F : Nat} {g : Gr} {l : List Int} (hF : l.length < F) (hG : g.2.length < F) (h9 : 9 ≤ F) (hl : Sm l.length) (hs : Sm g.2.length) :
    s_BandwidthOf F g l = some (bif good g && isOrd g.1 l then (bandF l g.2, true) else (0, false)) := by
  unfold s_BandwidthOf s_l7Order
  rw [l2Good_eq hG hs, Option.bind_some]
  cases h : good g with
  | false => rfl
  | true =>
    have := good_size h
    rw [l2Each_eq this.1 this.2 hF h9 hl]
    cases ho : isOrd g.1 l with
    | false => rfl
    | true => simp [sBand_eq h ho hF hG hl hs]

theorem iBandwidthOf_eq {F : Nat} {g : Gr} {l : List Int} (hF : l.length < F) (hG : g.2.length < F) (h9 : 9 ≤ F) (hl : Sm l.length) (hs : Sm g.2.length) :
    i_BandwidthOf F g l = some (bif good g && isOrd g.1 l then (bandF l g.2, true) else (0, false)) := by
  unfold i_BandwidthOf
  rw [isGraph_eq hG (by omega) hs, Option.bind_some]
  cases h : good g with
  | false => rfl
  | true =>
    have := good_size h
    rw [isOrder_eq this.1 this.2 hF hl]
    cases ho : isOrd g.1 l with
    | false => rfl
    | true => simp [i_BandwidthOf_j1, iBand_eq h ho hF hG hl hs]

end Go.Zq
/- The law BandwidthOf, as a plain statement. -/
namespace Go.Zq

theorem lawBandwidthOf {F : Nat} {g : Gr} {l : List Int} (hF : 2097152 ≤ F) (hg : g.2.length ≤ 9223372036854775807) : w_FnExactBandwidthOf F g l = some true := by
  unfold w_FnExactBandwidthOf
  by_cases h : (l.length : Int) > 1048576
  · simp [h]
  simp only [h, decide_false, cond_false]
  rw [szGraph_eq (by omega) (by omega) hg, Option.bind_some]
  by_cases h2 : (1048576 : Int) - g.2.length < 0
  · simp [h2]
  simp only [h2, if_false, decide_false, cond_false]
  rw [toGraph_eq (by omega) (by omega) (by omega), toIntS_eq (by omega) (by omega)]
  simp only [Option.bind_some]
  rw [sBandwidthOf_eq (by omega) (by omega) (by omega) (by unfold Sm; omega) (by unfold Sm; omega), iBandwidthOf_eq (by omega) (by omega) (by omega) (by unfold Sm; omega) (by unfold Sm; omega)]
  simp only [Option.bind_some, bne_self_eq_false, cond_false, w_FnExactBandwidthOf_j1]
  rw [toGraph_eq (by omega) (by omega) (by omega), toIntS_eq (by omega) (by omega)]
  simp only [Option.bind_some]
  rw [eqGraph_eq (by omega) (by unfold Sm; omega) (by omega), eqIntS_eq (by omega) (by unfold Sm; omega)]
  rfl

end Go.Zq
