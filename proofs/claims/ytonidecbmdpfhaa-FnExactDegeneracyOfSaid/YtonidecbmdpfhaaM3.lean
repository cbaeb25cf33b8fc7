/- Plain mathematics: what the functions answer (part 3). Conditions: stated in each theorem. -/
import Derived.Test.YtonidecbmdpfhaaM2
set_option linter.unusedVariables false
set_option linter.unusedSimpArgs false
/- Plain mathematics: lists compared; the greatest clique. -/
namespace Go.Zq

end Go.Zq
/- Plain mathematics: graphs of sets of nodes; the degeneracy. -/
namespace Go.Zq

/-- a loop that begins at a place -/
theorem loop_exFrom {β σ : Type} {L : Nat → Int → σ → Option β} {a n : Nat} (I : Nat → σ → Prop) {fin : σ → Option β} (hs : ∀ k i s, a ≤ i → i < n → I i s → ∃ s', I (i + 1) s' ∧ L (k + 1) (i : Int) s = L k ((i + 1 : Nat) : Int) s') (he : ∀ k s, I n s → L (k + 1) (n : Int) s = fin s) :
    ∀ d i k s, i + d = n → a ≤ i → d < k → I i s → ∃ s', I n s' ∧ L k (i : Int) s = fin s' := by
  intro d
  induction d with
  | zero =>
    intro i k s hi ha hk hI
    obtain ⟨k, rfl⟩ : ∃ k', k = k' + 1 := ⟨k - 1, by omega⟩
    obtain rfl : i = n := by omega
    exact ⟨s, hI, he k s hI⟩
  | succ d ih =>
    intro i k s hd ha hk hI
    obtain ⟨k, rfl⟩ : ∃ k', k = k' + 1 := ⟨k - 1, by omega⟩
    obtain ⟨s', h1, h2⟩ := hs k i s ha (by omega) hI
    rw [h2]
    exact ih (i + 1) k s' (by omega) (by omega) (by omega) h1

theorem adj_mem {g : Gr} {a b : Nat} : adj g a b = true ↔ ((a : Int), (b : Int)) ∈ g.2 ∨ ((b : Int), (a : Int)) ∈ g.2 := by
  unfold adj
  rw [anyN_iff]
  constructor
  · rintro ⟨i, hi, h⟩
    have hm := getD_mem (d := (0, 0)) hi
    unfold joins at h
    simp only [Bool.or_eq_true, Bool.and_eq_true, beq_iff_eq] at h
    rcases h with ⟨h1, h2⟩ | ⟨h1, h2⟩
    · left
      have : g.2.getD i (0, 0) = ((a : Int), (b : Int)) := Prod.ext h1 h2
      rw [this] at hm; exact hm
    · right
      have : g.2.getD i (0, 0) = ((b : Int), (a : Int)) := Prod.ext h1 h2
      rw [this] at hm; exact hm
  · rintro (h | h)
    · obtain ⟨i, hi, e⟩ := List.getElem_of_mem h
      refine ⟨i, hi, ?_⟩
      unfold joins
      rw [List.getD_eq_getElem?_getD, List.getElem?_eq_getElem hi, Option.getD_some, e]; simp
    · obtain ⟨i, hi, e⟩ := List.getElem_of_mem h
      refine ⟨i, hi, ?_⟩
      unfold joins
      rw [List.getD_eq_getElem?_getD, List.getElem?_eq_getElem hi, Option.getD_some, e]; simp

/-- the edges between the nodes of a list -/
def IndE (g : Gr) (X : List Int) (i k : Nat) (es : List (Int × Int)) : Prop :=
  es.length ≤ 8 * i + k ∧ ∀ a b : Nat, (((a : Int), (b : Int)) ∈ es ↔ a < b ∧ b < X.length ∧ adj g (X.getD a 0).toNat (X.getD b 0).toNat = true ∧ (a < i ∨ a = i ∧ b < k))

theorem induced_eq {F : Nat} {g : Gr} {X : List Int} (hX : X.length ≤ 8) (h0 : ∀ y ∈ X, 0 ≤ y) (hF : 20 ≤ F) (hG : g.2.length < F) (hs : Sm g.2.length) :
    ∃ es, s_l2Induced F g X = some ((X.length : Int), es) ∧ es.length ≤ 80 ∧ ∀ a b : Nat, (((a : Int), (b : Int)) ∈ es ↔ a < b ∧ b < X.length ∧ adj g (X.getD a 0).toNat (X.getD b 0).toNat = true) := by
  unfold s_l2Induced
  obtain ⟨es, ⟨h1, h2⟩, h3⟩ := loop_ex (L := fun k i s => s_l2Induced_l2 F X g k s i) (n := X.length) (fin := fun s => some ((X.length : Int), s)) (fun i s => IndE g X i 0 s) (by
    intro k i s hi hI
    have hw : w64 ((i : Int) + 1) = ((i + 1 : Nat) : Int) := w64_succ hi (by unfold Sm; omega)
    have hxi := h0 _ (getD_mem (d := 0) hi)
    obtain ⟨es, hes, h4⟩ := loop_exFrom (L := fun k2 t s => s_l2Induced_l1 F X g (i : Int) (s_l2Induced_l2 F X g k) k2 s t) (a := i + 1) (n := X.length) (fin := fun s => s_l2Induced_l2 F X g k s ((i + 1 : Nat) : Int)) (fun t s => IndE g X i t s) (by
      rintro k2 t s hit ht ⟨hI1, hI2⟩
      have hxt := h0 _ (getD_mem (d := 0) ht)
      have e1 : X.getD i 0 = (((X.getD i 0).toNat : Nat) : Int) := by omega
      have e2 : X.getD t 0 = (((X.getD t 0).toNat : Nat) : Int) := by omega
      simp only [s_l2Induced_l1, s_l2Induced_j1]
      rw [decide_eq_true (show (t : Int) < X.length by omega), cond_true, idx_getD (d := 0) hi, Option.bind_some, idx_getD (d := 0) ht, Option.bind_some, e1, e2, near_eq hG hs, Option.bind_some, w64_succ ht (by unfold Sm; omega)]
      cases hA : adj g (X.getD i 0).toNat (X.getD t 0).toNat with
      | true =>
        rw [cond_true, appL_one (by omega), Option.bind_some]
        refine ⟨_, ⟨by simp; omega, ?_⟩, rfl⟩
        intro a b
        rw [List.mem_append, hI2, List.mem_singleton, Prod.mk.injEq]
        constructor
        · rintro (⟨h5, h6, h7, h8⟩ | ⟨h5, h6⟩)
          · exact ⟨h5, h6, h7, by omega⟩
          · have ea : a = i := by omega
            have eb : b = t := by omega
            subst ea; subst eb
            exact ⟨by omega, ht, hA, by omega⟩
        · rintro ⟨h5, h6, h7, h8⟩
          by_cases e : a = i ∧ b = t
          · right; omega
          · left; exact ⟨h5, h6, h7, by omega⟩
      | false =>
        rw [cond_false]
        refine ⟨s, ⟨by omega, ?_⟩, rfl⟩
        intro a b
        rw [hI2]
        constructor
        · rintro ⟨h5, h6, h7, h8⟩; exact ⟨h5, h6, h7, by omega⟩
        · rintro ⟨h5, h6, h7, h8⟩
          refine ⟨h5, h6, h7, ?_⟩
          rcases h8 with h8 | ⟨h8, h9⟩
          · exact .inl h8
          · by_cases e : b = t
            · subst e; subst h8; rw [hA] at h7; cases h7
            · right; omega) (by
      intro k2 s hI
      simp only [s_l2Induced_l1]
      rw [decide_eq_false (show ¬ (X.length : Int) < X.length by omega), cond_false, hw]) (X.length - (i + 1)) (i + 1) F s (by omega) (Nat.le_refl _) (by omega) (by
      obtain ⟨hI1, hI2⟩ := hI
      refine ⟨by omega, fun a b => ?_⟩
      rw [hI2]
      constructor
      · rintro ⟨h5, h6, h7, h8⟩; exact ⟨h5, h6, h7, by omega⟩
      · rintro ⟨h5, h6, h7, h8⟩; exact ⟨h5, h6, h7, by omega⟩)
    refine ⟨es, ?_, ?_⟩
    · obtain ⟨hes1, hes2⟩ := hes
      refine ⟨by omega, fun a b => ?_⟩
      rw [hes2]
      constructor
      · rintro ⟨h5, h6, h7, h8⟩; exact ⟨h5, h6, h7, by omega⟩
      · rintro ⟨h5, h6, h7, h8⟩; exact ⟨h5, h6, h7, by omega⟩
    · simp only [s_l2Induced_l2]
      rw [decide_eq_true (show (i : Int) < X.length by omega), cond_true, hw]
      exact h4) (by
    intro k s hI
    simp only [s_l2Induced_l2]
    rw [decide_eq_false (show ¬ (X.length : Int) < X.length by omega), cond_false]) F [] (by omega) ⟨by simp, fun a b => by simp⟩
  refine ⟨es, h3, by omega, fun a b => ?_⟩
  rw [h2]
  constructor
  · rintro ⟨h5, h6, h7, h8⟩; exact ⟨h5, h6, h7⟩
  · rintro ⟨h5, h6, h7⟩; exact ⟨h5, h6, h7, by omega⟩

theorem nbrs_raw {F x n : Nat} {g : Gr} (h1 : g.1 = (n : Int)) (h8 : n ≤ 8) (hF : 20 ≤ F) (hG : g.2.length < F) (hs : Sm g.2.length) : s_l2Neighbors F g (x : Int) = some (listN (adj g x) n) := by
  unfold s_l2Neighbors
  refine loop_inv (L := fun k t s => s_l2Neighbors_l1 F (x : Int) g k s t) (n := n) (fun t s => s = listN (adj g x) t) ?_ ?_ F [] (by omega) rfl
  · rintro k t s ht rfl
    refine ⟨_, rfl, ?_⟩
    have hle := listN_le (p := adj g x) (n := t)
    simp only [s_l2Neighbors_l1, s_l2Neighbors_j1]
    rw [decide_eq_true (show (t : Int) < g.1 by omega), cond_true, near_eq hG hs, Option.bind_some, w64_succ ht (by unfold Sm; omega), listN_s]
    cases adj g x t with
    | true => rw [cond_true, appL_one (by omega), Option.bind_some]; rfl
    | false => rfl
  · rintro k s rfl
    simp only [s_l2Neighbors_l1]
    rw [decide_eq_false (show ¬ (n : Int) < g.1 by omega), cond_false]

theorem among_nil {F : Nat} {l : List Int} (hF : l.length < F) (hl : l.length ≤ 8) : s_l5Among_l1 F [] l F [] 0 = some l := by
  refine loop_inv (L := fun k t s => s_l5Among_l1 F [] l k s t) (n := l.length) (fun t s => s = l.take t) ?_ ?_ F [] (by omega) (by simp)
  · rintro k t s ht rfl
    refine ⟨_, rfl, ?_⟩
    have hl3 : (l.take t).length ≤ 8 := by simp; omega
    simp only [s_l5Among_l1, s_l5Among_j1]
    have hn : s_l1Has F [] (l.getD t 0) = some false := by rw [l1Has_eq (by simp; omega) (by simp [Sm])]; simp
    rw [decide_eq_true (show (t : Int) < l.length by omega), cond_true, idx_getD (d := 0) ht, Option.bind_some, hn, Option.bind_some, Bool.not_false, cond_true, Option.bind_some, appL_one (by omega), Option.bind_some, w64_succ ht (by unfold Sm; omega)]
    congr 1
    rw [List.take_add_one, List.getD_eq_getElem?_getD, List.getElem?_eq_getElem ht]; rfl
  · rintro k s rfl
    simp only [s_l5Among_l1]
    rw [decide_eq_false (show ¬ (l.length : Int) < l.length by omega), cond_false, List.take_length]

theorem cnt_filter {q : Int → Bool} {X : List Int} : ∀ m, m ≤ X.length → cntN (fun k => q (X.getD k 0)) m = ((X.take m).filter q).length := by
  intro m
  induction m with
  | zero => intro _; rw [cnt_sum]; rfl
  | succ m ih =>
    intro hm
    have hlt : m < X.length := by omega
    rw [cnt_sum]
    simp only [sumN]
    rw [← cnt_sum, ih (by omega), List.take_add_one, List.getElem?_eq_getElem hlt, List.filter_append, List.length_append, List.getD_eq_getElem?_getD, List.getElem?_eq_getElem hlt, Option.getD_some]
    simp only [Option.toList_some, List.filter_cons, List.filter_nil]
    cases q X[m] <;> simp

/-- how many neighbors a node has in a set -/
def degS (g : Gr) (p : Nat → Bool) (x : Nat) : Nat := cntN (fun y => p y && adj g x y) g.1.toNat
theorem degS_le {g : Gr} {p : Nat → Bool} {x : Nat} : degS g p x ≤ g.1.toNat := cnt_le

theorem adj_irr {g : Gr} (hg : good g = true) {x : Nat} : adj g x x = false := by
  cases h : adj g x x with
  | false => rfl
  | true =>
    unfold adj at h
    obtain ⟨i, hi, h⟩ := anyN_iff.1 h
    obtain ⟨e1, e2, e3⟩ := good_edge hg hi
    unfold joins at h
    simp only [Bool.or_eq_true, Bool.and_eq_true, beq_iff_eq] at h
    omega

theorem indDeg {F i : Nat} {g : Gr} {p : Nat → Bool} {es : List (Int × Int)} (hg : good g = true) (hF : 300 ≤ F) (hi : i < (listN p g.1.toNat).length) (hl : es.length ≤ 80)
    (hes : ∀ a b : Nat, (((a : Int), (b : Int)) ∈ es ↔ a < b ∧ b < (listN p g.1.toNat).length ∧ adj g ((listN p g.1.toNat).getD a 0).toNat ((listN p g.1.toNat).getD b 0).toNat = true)) :
    ∃ l, s_l5Among F (((listN p g.1.toNat).length : Int), es) [] (i : Int) = some l ∧ l.length = degS g p ((listN p g.1.toNat).getD i 0).toNat := by
  have h8 := good_size hg
  obtain ⟨n, hn⟩ : ∃ n : Nat, g.1.toNat = n := ⟨_, rfl⟩
  have hle := listN_le (p := p) (n := g.1.toNat)
  obtain ⟨X, hX⟩ : ∃ X, listN p g.1.toNat = X := ⟨_, rfl⟩
  rw [hX] at hi hes hle ⊢
  unfold s_l5Among
  rw [nbrs_raw (n := X.length) rfl (by omega) (by omega) (by show es.length < F; omega) (by show Sm es.length; unfold Sm; omega), Option.bind_some]
  have hll := listN_le (p := adj ((X.length : Int), es) i) (n := X.length)
  refine ⟨_, among_nil (by omega) (by omega), ?_⟩
  rw [listN_len]
  have e1 : cntN (adj ((X.length : Int), es) i) X.length = cntN (fun k => adj g (X.getD i 0).toNat (X.getD k 0).toNat) X.length := by
    refine cnt_congr fun k hk => ?_
    rw [Bool.eq_iff_iff, adj_mem]
    show (_ ∈ es ∨ _ ∈ es) ↔ _
    rw [hes, hes]
    constructor
    · rintro (⟨h1, h2, h3⟩ | ⟨h1, h2, h3⟩)
      · exact h3
      · rw [adj_comm]; exact h3
    · intro h
      rcases Nat.lt_trichotomy i k with h1 | h1 | h1
      · exact .inl ⟨h1, hk, h⟩
      · subst h1; rw [adj_irr hg] at h; cases h
      · exact .inr ⟨h1, hi, by rw [adj_comm]; exact h⟩
  rw [e1, cnt_filter (q := fun y => adj g (X.getD i 0).toNat y.toNat) (X := X) X.length (Nat.le_refl _), List.take_length, ← hX, filter_listN (A := p) (B := adj g ((listN p g.1.toNat).getD i 0).toNat), listN_len]
  rfl

end Go.Zq
/- Plain mathematics: the degeneracy. -/
namespace Go.Zq

theorem least_eq {F : Nat} {a b : Int} : s_l1Least F a b = some (min a b) := by
  unfold s_l1Least
  by_cases h : a < b
  · simp [h]; omega
  · simp [h]; omega

/-- the least number of neighbors in a set, at most a number -/
def mnD (g : Gr) (p : Nat → Bool) (s : Int) (X : List Int) : Int := X.foldl (fun s y => min s (degS g p y.toNat : Int)) s

theorem mnD_snoc {g : Gr} {p : Nat → Bool} {s y : Int} {X : List Int} : mnD g p s (X ++ [y]) = min (mnD g p s X) (degS g p y.toNat : Int) := by simp [mnD, List.foldl_append]

theorem mnD_start {g : Gr} {p : Nat → Bool} {X : List Int} (hg : good g = true) (hX : X ≠ []) : mnD g p 8 X = mnD g p g.1 X := by
  have h8 := good_size hg
  cases X with
  | nil => exact absurd rfl hX
  | cons y ys =>
    unfold mnD
    simp only [List.foldl_cons]
    have := degS_le (g := g) (p := p) (x := y.toNat)
    congr 1
    omega

/-- the degeneracy of the sets with numbers below -/
def dgn (g : Gr) : Nat → Int
  | 0 => -1
  | m + 1 => max (dgn g m) (mnD g (m + 1).testBit g.1 (listN (m + 1).testBit g.1.toNat))

theorem listN_ne {m n : Nat} (h0 : 0 < m) (hm : m < 2 ^ n) : listN m.testBit n ≠ [] := by
  obtain ⟨i, hi⟩ := Nat.exists_testBit_of_ne_zero (show m ≠ 0 by omega)
  have hlt : i < n := by
    rcases Nat.lt_or_ge i n with h | h
    · exact h
    · rw [Nat.testBit_lt_two_pow (Nat.lt_of_lt_of_le hm (Nat.pow_le_pow_right (by decide) h))] at hi; cases hi
  have : (i : Int) ∈ listN m.testBit n := listN_mem.2 ⟨i, rfl, hlt, hi⟩
  intro e; rw [e] at this; cases this

theorem sDegIn {F m : Nat} {g : Gr} {most : Int} {c1 : Int → Int → Option (Int × Bool)} (hg : good g = true) (hF : 300 ≤ F) (hG : g.2.length < F) (hs : Sm g.2.length) (hm : m < 100000) :
    s_DegeneracyOf_l1 F g most (m : Int) (listN m.testBit g.1.toNat) c1 F g.1 0 = c1 (max most (mnD g m.testBit g.1 (listN m.testBit g.1.toNat))) ((m + 1 : Nat) : Int) := by
  have h8 := good_size hg
  obtain ⟨X, hX⟩ : ∃ X, listN m.testBit g.1.toNat = X := ⟨_, rfl⟩
  have hle := listN_le (p := m.testBit) (n := g.1.toNat)
  have h0 : ∀ y ∈ listN m.testBit g.1.toNat, 0 ≤ y := by
    intro y hy
    obtain ⟨j, rfl, _⟩ := listN_mem.1 hy
    omega
  obtain ⟨es, hes1, hes2, hes3⟩ := induced_eq (F := F) (g := g) (X := listN m.testBit g.1.toNat) (by omega) h0 (by omega) hG hs
  have hdeg := fun i hi => indDeg (F := F) (i := i) (p := m.testBit) hg hF hi hes2 hes3
  rw [hX] at hle hes1 hdeg ⊢
  refine loop_inv (L := fun k t s => s_DegeneracyOf_l1 F g most (m : Int) X c1 k s t) (n := X.length) (fun t s => s = mnD g m.testBit g.1 (X.take t)) ?_ ?_ F g.1 (by omega) (by simp [mnD])
  · rintro k t s ht rfl
    refine ⟨_, rfl, ?_⟩
    obtain ⟨l, hl1, hl2⟩ := hdeg t ht
    simp only [s_DegeneracyOf_l1]
    rw [decide_eq_true (show (t : Int) < X.length by omega), cond_true, hes1, Option.bind_some, hl1, Option.bind_some, least_eq, Option.bind_some, w64_succ ht (by unfold Sm; omega), hl2]
    congr 1
    rw [List.take_add_one, List.getElem?_eq_getElem ht, Option.toList_some, mnD_snoc, List.getD_eq_getElem?_getD, List.getElem?_eq_getElem ht, Option.getD_some]
  · rintro k s rfl
    simp only [s_DegeneracyOf_l1]
    rw [decide_eq_false (show ¬ (X.length : Int) < X.length by omega), cond_false, most_eq, Option.bind_some, List.take_length, w64_id (by omega) (by omega)]
    rfl

theorem iDegIn {F m : Nat} {g : Gr} {most : Int} {c1 : Int → Int → Option (Int × Bool)} (hg : good g = true) (hF : 300 ≤ F) (hm : m < 2 ^ g.1.toNat) (h0 : 0 < m) :
    i_DegeneracyOf_l1 F ⟨nearL g⟩ most (m : Int) (listN m.testBit g.1.toNat) c1 F 8 0 = c1 (max most (mnD g m.testBit g.1 (listN m.testBit g.1.toNat))) ((m + 1 : Nat) : Int) := by
  have h8 := good_size hg
  have h256 := lt256 (by omega) hm
  have hle := listN_le (p := m.testBit) (n := g.1.toNat)
  rw [← mnD_start hg (listN_ne h0 hm)]
  refine loop_inv (L := fun k t s => i_DegeneracyOf_l1 F ⟨nearL g⟩ most (m : Int) (listN m.testBit g.1.toNat) c1 k s t) (n := (listN m.testBit g.1.toNat).length) (fun t s => s = mnD g m.testBit 8 ((listN m.testBit g.1.toNat).take t)) ?_ ?_ F 8 (by omega) (by simp [mnD])
  · rintro k t s ht rfl
    obtain ⟨a, ha, han, hap⟩ := listN_get ht
    refine ⟨_, rfl, ?_⟩
    have hand := and_mkm (A := adj g a) (B := m.testBit) (n := g.1.toNat) (by omega)
    rw [mkm_self hm] at hand
    simp only [i_DegeneracyOf_l1]
    rw [decide_eq_true (show (t : Int) < ((listN m.testBit g.1.toNat).length : Int) by omega), cond_true, idx_getD (d := 0) ht, Option.bind_some, ha, idx_getD (d := 0) (by rw [nearL_len]; exact han), Option.bind_some, nearL_get han, hand, ones_eq (mkm_256 (by omega)), Option.bind_some, popc_mkm (by omega), w64_succ ht (by unfold Sm; omega), takeS ht ha, mnD_snoc, Int.toNat_natCast]
    have e : cntN (fun j => adj g a j && m.testBit j) g.1.toNat = degS g m.testBit a := by
      unfold degS
      exact cnt_congr fun j _ => Bool.and_comm _ _
    rw [e]
    congr 1
    split <;> omega
  · rintro k s rfl
    simp only [i_DegeneracyOf_l1]
    rw [decide_eq_false (show ¬ ((listN m.testBit g.1.toNat).length : Int) < ((listN m.testBit g.1.toNat).length : Int) by omega), cond_false, List.take_length, w64_id (by omega) (by omega)]
    congr 1
    split <;> omega

theorem sDg_eq {F : Nat} {g : Gr} (hG : g.2.length < F) (h9 : 300 ≤ F) (hs : Sm g.2.length) : s_DegeneracyOf F g = some (bif good g then (dgn g (2 ^ g.1.toNat - 1), true) else (0, false)) := by
  unfold s_DegeneracyOf
  rw [l2Good_eq hG hs, Option.bind_some]
  cases h : good g with
  | false => rfl
  | true =>
    have h8 := good_size h
    obtain ⟨n, hn⟩ : ∃ n : Nat, g.1.toNat = n := ⟨_, rfl⟩
    have hgn : g.1 = (n : Int) := by omega
    have hpow := Nat.two_pow_pos n
    have h256 : 2 ^ n ≤ 256 := by
      have := Nat.pow_le_pow_right (n := 2) (by decide) (show n ≤ 8 by omega)
      simpa using this
    simp only [Bool.not_true, cond_false, cond_true]
    rw [hn]
    refine loop_inv (L := fun k i s => s_DegeneracyOf_l2 F g k s (i + 1)) (n := 2 ^ n - 1) (fun i s => s = dgn g i) ?_ ?_ F (-1) (by omega) rfl
    · rintro k i s hi rfl
      refine ⟨_, rfl, ?_⟩
      have e : (i : Int) + 1 = ((i + 1 : Nat) : Int) := by omega
      have hin := sDegIn (m := i + 1) (most := dgn g i) (c1 := s_DegeneracyOf_l2 F g k) h h9 hG hs (by omega)
      rw [hn] at hin
      simp only [s_DegeneracyOf_l2]
      rw [hgn, one_shl (by omega), Option.bind_some, e, decide_eq_true (show ((i + 1 : Nat) : Int) < ((2 ^ n : Nat) : Int) by omega), cond_true, bits_eq (by omega) (by omega) (by omega), Option.bind_some, ← hgn, hin]
      rw [show dgn g (i + 1) = max (dgn g i) (mnD g (i + 1).testBit g.1 (listN (i + 1).testBit g.1.toNat)) from rfl, hn]
      congr 1
    · rintro k s rfl
      simp only [s_DegeneracyOf_l2]
      rw [hgn, one_shl (by omega), Option.bind_some, decide_eq_false (show ¬ ((2 ^ n - 1 : Nat) : Int) + 1 < ((2 ^ n : Nat) : Int) by omega), cond_false]

theorem iDg_eq {F : Nat} {g : Gr} (hG : g.2.length < F) (h9 : 300 ≤ F) (hs : Sm g.2.length) : i_DegeneracyOf F g = some (bif good g then (dgn g (2 ^ g.1.toNat - 1), true) else (0, false)) := by
  unfold i_DegeneracyOf
  rw [isGraph_eq hG (by omega) hs, Option.bind_some]
  cases h : good g with
  | false => rfl
  | true =>
    have h8 := good_size h
    obtain ⟨n, hn⟩ : ∃ n : Nat, g.1.toNat = n := ⟨_, rfl⟩
    have hgn : g.1 = (n : Int) := by omega
    have hpow := Nat.two_pow_pos n
    have h256 : 2 ^ n ≤ 256 := by
      have := Nat.pow_le_pow_right (n := 2) (by decide) (show n ≤ 8 by omega)
      simpa using this
    simp only [Bool.not_true, cond_false, cond_true]
    rw [netOf_eq h hG hs, Option.bind_some, hn]
    refine loop_inv (L := fun k i s => i_DegeneracyOf_l2 F ⟨nearL g⟩ k s (i + 1)) (n := 2 ^ n - 1) (fun i s => s = dgn g i) ?_ ?_ F (-1) (by omega) rfl
    · rintro k i s hi rfl
      refine ⟨_, rfl, ?_⟩
      have e : (i : Int) + 1 = ((i + 1 : Nat) : Int) := by omega
      have hin := iDegIn (m := i + 1) (most := dgn g i) (c1 := i_DegeneracyOf_l2 F ⟨nearL g⟩ k) h h9 (by rw [hn]; omega) (by omega)
      rw [hn] at hin
      have hset := setOf_eq (F := F) (n := n) (p := (i + 1).testBit) (by omega) (by omega)
      rw [mkm_self (by omega)] at hset
      simp only [i_DegeneracyOf_l2]
      rw [iAll_eq h, Option.bind_some, mkm_full, hn, e, decide_eq_true (show ((i + 1 : Nat) : Int) ≤ ((2 ^ n - 1 : Nat) : Int) by omega), cond_true, hset, Option.bind_some, hin]
      rw [show dgn g (i + 1) = max (dgn g i) (mnD g (i + 1).testBit g.1 (listN (i + 1).testBit g.1.toNat)) from rfl, hn]
      congr 1
    · rintro k s rfl
      simp only [i_DegeneracyOf_l2]
      rw [iAll_eq h, Option.bind_some, mkm_full, hn, decide_eq_false (show ¬ ((2 ^ n - 1 : Nat) : Int) + 1 ≤ ((2 ^ n - 1 : Nat) : Int) by omega), cond_false]

end Go.Zq
/- The law DegeneracyOf, as a plain statement. -/
namespace Go.Zq

theorem lawDegeneracyOf {F : Nat} {g : Gr} (hF : 2097152 ≤ F) (hg : g.2.length ≤ 9223372036854775807) : w_FnExactDegeneracyOf F g = some true := by
  unfold w_FnExactDegeneracyOf
  rw [szGraph_eq (by omega) (by omega) hg, Option.bind_some]
  by_cases h2 : (1048576 : Int) - g.2.length < 0
  · simp [h2]
  simp only [h2, if_false, decide_false, cond_false]
  rw [toGraph_eq (by omega) (by omega) (by omega)]
  simp only [Option.bind_some]
  rw [sDg_eq (by omega) (by omega) (by unfold Sm; omega), iDg_eq (by omega) (by omega) (by unfold Sm; omega)]
  simp only [Option.bind_some, bne_self_eq_false, cond_false, w_FnExactDegeneracyOf_j1]
  rw [toGraph_eq (by omega) (by omega) (by omega)]
  simp only [Option.bind_some]
  rw [eqGraph_eq (by omega) (by unfold Sm; omega) (by omega)]
  rfl

end Go.Zq
