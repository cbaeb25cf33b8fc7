/- Plain mathematics: what the functions answer (part 3). Conditions: stated in each theorem. -/
import Derived.Test.YtdhbhaaiohkpdaaM2
import Derived.Test.YtdhbhaaiohkpdaaM1
set_option linter.unusedVariables false
set_option linter.unusedSimpArgs false
/- Plain mathematics: decompositions. -/
namespace Go.Zq

end Go.Zq
/- Plain mathematics: the filling of an elimination, and its width. -/
namespace Go.Zq

end Go.Zq
/- Plain mathematics: the bags of a layout. -/
namespace Go.Zq

end Go.Zq
/- Plain mathematics: the unsafe nodes after each step of a program. -/
namespace Go.Zq

end Go.Zq
/- Plain mathematics: perfect eliminations. -/
namespace Go.Zq

end Go.Zq
/- Plain mathematics: lists compared; the greatest clique. -/
namespace Go.Zq

/-- a list is less -/
def lexB : List Int → List Int → Bool
  | [], [] => false
  | [], _ :: _ => true
  | _ :: _, [] => false
  | x :: xs, y :: ys => if x = y then lexB xs ys else decide (x < y)

theorem drop_nilL {l : List Int} {i : Nat} (h : l.length ≤ i) : l.drop i = [] := List.drop_eq_nil_of_le h
theorem drop_cons {l : List Int} {i : Nat} (h : i < l.length) : l.drop i = l.getD i 0 :: l.drop (i + 1) := by
  rw [List.drop_eq_getElem_cons h]
  simp [h]

theorem sLess_eq {F : Nat} {a b : List Int} (hF : a.length < F) (ha : Sm a.length) : s_l5Less F a b = some (lexB a b) := by
  unfold s_l5Less
  have key : ∀ d k i, i + d = a.length → d < k → s_l5Less_l1 F a b k (i : Int) = some (lexB (a.drop i) (b.drop i)) := by
    intro d
    induction d with
    | zero =>
      intro k i hi hk
      obtain ⟨k, rfl⟩ : ∃ k', k = k' + 1 := ⟨k - 1, by omega⟩
      simp only [s_l5Less_l1, s_l5Less_j1]
      rw [decide_eq_false (show ¬ (i : Int) < a.length by omega), cond_false, cond_false, List.drop_eq_nil_of_le (by omega)]
      by_cases hb : i < b.length
      · rw [drop_cons hb, decide_eq_true (by omega)]; rfl
      · rw [List.drop_eq_nil_of_le (by omega), decide_eq_false (by omega)]; rfl
    | succ d ih =>
      intro k i hi hk
      obtain ⟨k, rfl⟩ : ∃ k', k = k' + 1 := ⟨k - 1, by omega⟩
      have hia : i < a.length := by omega
      simp only [s_l5Less_l1, s_l5Less_j1]
      rw [decide_eq_true (show (i : Int) < a.length by omega), cond_true, drop_cons hia]
      by_cases hb : i < b.length
      · rw [decide_eq_true (show (i : Int) < b.length by omega), cond_true, idx_getD (d := 0) hia, Option.bind_some, idx_getD (d := 0) hb, Option.bind_some, Option.bind_some, Option.bind_some, w64_succ hia ha, drop_cons hb]
        simp only [lexB]
        by_cases e : a.getD i 0 = b.getD i 0
        · rw [if_pos e, e, bne_self_eq_false, cond_false]; exact ih k (i + 1) (by omega) (by omega)
        · have : (a.getD i 0 != b.getD i 0) = true := by simpa using e
          rw [if_neg e, this, cond_true]
      · rw [decide_eq_false (show ¬ (i : Int) < b.length by omega), cond_false, drop_nilL (l := b) (by omega), decide_eq_false (by omega)]; rfl
  have := key a.length F 0 (by omega) (by omega)
  simpa using this

theorem cmpI_eq {F : Nat} {x y : Int} : cmp_Compare_int F x y = some (if x < y then -1 else if x > y then 1 else 0) := by
  unfold cmp_Compare_int cmp_isNaN_int
  simp only [Option.bind_some, bne_self_eq_false, cond_false]
  by_cases h : x < y
  · rw [decide_eq_true h, cond_true, if_pos h]
  · rw [decide_eq_false h, cond_false, if_neg h]
    by_cases h2 : x > y
    · rw [decide_eq_true h2, cond_true, if_pos h2]
    · rw [decide_eq_false h2, cond_false, if_neg h2]

theorem compare_eq {F : Nat} {a b : List Int} (hF : a.length < F) (ha : Sm a.length) : ∃ r, slices_Compare F a b = some r ∧ decide (r < 0) = lexB a b := by
  unfold slices_Compare
  have key : ∀ d k i, i + d = a.length → d < k → ∃ r, slices_Compare_l1 F a b k (i : Int) = some r ∧ (i ≤ b.length → decide (r < 0) = lexB (a.drop i) (b.drop i)) := by
    intro d
    induction d with
    | zero =>
      intro k i hi hk
      obtain ⟨k, rfl⟩ : ∃ k', k = k' + 1 := ⟨k - 1, by omega⟩
      simp only [slices_Compare_l1]
      rw [decide_eq_false (show ¬ (i : Int) < a.length by omega), cond_false, List.drop_eq_nil_of_le (by omega)]
      by_cases hb : i < b.length
      · rw [drop_cons hb, decide_eq_true (show (a.length : Int) < b.length by omega), cond_true]
        exact ⟨_, rfl, fun _ => rfl⟩
      · rw [List.drop_eq_nil_of_le (by omega), decide_eq_false (show ¬ (a.length : Int) < b.length by omega), cond_false]
        exact ⟨_, rfl, fun _ => rfl⟩
    | succ d ih =>
      intro k i hi hk
      obtain ⟨k, rfl⟩ : ∃ k', k = k' + 1 := ⟨k - 1, by omega⟩
      have hia : i < a.length := by omega
      simp only [slices_Compare_l1]
      rw [decide_eq_true (show (i : Int) < a.length by omega), cond_true, idx_getD (d := 0) hia, Option.bind_some, drop_cons hia]
      by_cases hb : i < b.length
      · rw [decide_eq_false (show ¬ (i : Int) ≥ b.length by omega), cond_false, idx_getD (d := 0) hb, Option.bind_some, cmpI_eq, Option.bind_some, w64_succ hia ha, drop_cons hb]
        simp only [lexB]
        obtain ⟨r, h1, h2⟩ := ih k (i + 1) (by omega) (by omega)
        by_cases e : a.getD i 0 = b.getD i 0
        · rw [if_pos e, e, if_neg (by omega), if_neg (by omega), bne_self_eq_false, cond_false]
          exact ⟨r, h1, fun _ => h2 (by omega)⟩
        · rw [if_neg e]
          by_cases e2 : a.getD i 0 < b.getD i 0
          · rw [if_pos e2, decide_eq_true e2]; exact ⟨-1, rfl, fun _ => rfl⟩
          · rw [if_neg e2, if_pos (by omega), decide_eq_false e2]; exact ⟨1, rfl, fun _ => rfl⟩
      · rw [decide_eq_true (show (i : Int) ≥ b.length by omega), cond_true]
        refine ⟨1, rfl, fun h => ?_⟩
        rw [drop_nilL (l := b) (by omega)]; rfl
  obtain ⟨r, h1, h2⟩ := key a.length F 0 (by omega) (by omega)
  exact ⟨r, h1, by simpa using h2 (Nat.zero_le _)⟩

end Go.Zq
/- Plain mathematics: the cover of a bramble. -/
namespace Go.Zq

/-- a set, by its number, has a node of each list -/
def metB (n : Nat) (b : List (List Int)) (m : Nat) : Bool := allN (fun i => anyN (fun j => m.testBit j && bq (b.getD i []) j) n) b.length

theorem any_list {n : Nat} {p : Nat → Bool} {l : List Int} : anyN (fun t => decide ((listN p n).getD t 0 ∈ l)) (listN p n).length = anyN (fun j => p j && bq l j) n := by
  rw [Bool.eq_iff_iff, anyN_iff, anyN_iff]
  constructor
  · rintro ⟨t, ht, h⟩
    have hm := getD_mem (d := 0) ht
    rw [listN_mem] at hm
    obtain ⟨j, hj, h1, h2⟩ := hm
    refine ⟨j, h1, ?_⟩
    simp only [decide_eq_true_eq] at h
    rw [hj] at h
    rw [h2, Bool.true_and]
    simpa [bq] using h
  · rintro ⟨j, hj, h⟩
    simp only [Bool.and_eq_true] at h
    have hm : (j : Int) ∈ listN p n := listN_mem.2 ⟨j, rfl, hj, h.1⟩
    obtain ⟨t, ht, e⟩ := List.mem_iff_getElem.1 hm
    refine ⟨t, ht, ?_⟩
    simp only [List.getD_eq_getElem?_getD, List.getElem?_eq_getElem ht, Option.getD_some, e, decide_eq_true_eq]
    simpa [bq] using h.2

theorem sMeets_eq {F n m : Nat} {b : List (List Int)} (hn : n ≤ 8) (hb : Bg F b) : s_l5Meets F (listN m.testBit n) b = some (metB n b m) := by
  have hf := hb.fuel
  have hl := hb.len
  have hle := listN_le (p := m.testBit) (n := n)
  unfold s_l5Meets
  have key : ∀ i, i < b.length → ∀ k, (s_l5Meets_l1 F (listN m.testBit n) b (i : Int) (s_l5Meets_l2 F (listN m.testBit n) b k) F false 0) =
      (bif anyN (fun j => m.testBit j && bq (b.getD i []) j) n then s_l5Meets_l2 F (listN m.testBit n) b k ((i + 1 : Nat) : Int) else some false) := by
    intro i hi k
    have hbi := hb.at hi
    rw [← any_list]
    refine loop_inv (L := fun k2 t s => s_l5Meets_l1 F (listN m.testBit n) b (i : Int) (s_l5Meets_l2 F (listN m.testBit n) b k) k2 s t) (n := (listN m.testBit n).length) (fun t s => s = anyN (fun t => decide ((listN m.testBit n).getD t 0 ∈ b.getD i [])) t) ?_ ?_ F _ (by omega) rfl
    · rintro k2 t s ht rfl
      refine ⟨_, rfl, ?_⟩
      simp only [s_l5Meets_l1, s_l5Meets_j1]
      rw [decide_eq_true (show (t : Int) < ((listN m.testBit n).length : Int) by omega), cond_true, idx_getD (d := []) hi, Option.bind_some, idx_getD (d := 0) ht, Option.bind_some, l1Has_eq (by omega) (by unfold Sm; omega), Option.bind_some, w64_succ ht (by unfold Sm; omega)]
      simp only [anyN]
      cases anyN (fun t => decide ((listN m.testBit n).getD t 0 ∈ b.getD i [])) t <;> simp
    · rintro k2 s rfl
      simp only [s_l5Meets_l1]
      rw [decide_eq_false (show ¬ ((listN m.testBit n).length : Int) < ((listN m.testBit n).length : Int) by omega), cond_false, w64_succ hi (by unfold Sm; omega)]
      cases anyN (fun t => decide ((listN m.testBit n).getD t 0 ∈ b.getD i [])) (listN m.testBit n).length <;> rfl
  rw [loop_all (L := fun k i => s_l5Meets_l2 F (listN m.testBit n) b k i) (n := b.length) (p := fun i => anyN (fun j => m.testBit j && bq (b.getD i []) j) n) (bad := some false) (fin := some true) ?_ ?_ F (by omega)]
  · unfold metB
    cases allN (fun i => anyN (fun j => m.testBit j && bq (b.getD i []) j) n) b.length <;> rfl
  · intro k i hi
    simp only [s_l5Meets_l2]
    rw [decide_eq_true (show (i : Int) < (b.length : Int) by omega), cond_true]
    exact key i hi k
  · intro k
    simp only [s_l5Meets_l2]
    rw [decide_eq_false (show ¬ (b.length : Int) < (b.length : Int) by omega), cond_false]

theorem and_zero {n m : Nat} {q : Nat → Bool} : ((mkm q n &&& m) = 0) ↔ anyN (fun j => m.testBit j && q j) n = false := by
  rw [Bool.eq_false_iff, ne_eq, anyN_iff]
  constructor
  · rintro h ⟨j, hj, e⟩
    simp only [Bool.and_eq_true] at e
    have : (mkm q n &&& m).testBit j = true := by
      rw [Nat.testBit_and, mkm_bit, decide_eq_true hj, e.1, e.2]; rfl
    rw [h] at this
    simp at this
  · intro h
    apply Nat.eq_of_testBit_eq
    intro j
    rw [Nat.zero_testBit, Nat.testBit_and, mkm_bit, Bool.eq_false_iff]
    intro e
    simp only [Bool.and_eq_true, decide_eq_true_eq] at e
    exact h ⟨j, e.1.1, by rw [e.2, e.1.2]; rfl⟩

theorem iMisses_eq {F m : Nat} {g : Gr} {b : List (List Int)} (hg : good g = true) (hb : Bg F b) (hm : m < 2 ^ g.1.toNat) (hset : ∀ i, i < b.length → setB g.1 (b.getD i []) = true) :
    slices_ContainsFunc_int_int_of_i_BrambleCover_1 F b ⟨(), (⟨(m : Int)⟩, ())⟩ = some (!metB g.1.toNat b m) := by
  have hf := hb.fuel
  have hl := hb.len
  have h8 := good_size hg
  unfold slices_ContainsFunc_int_int_of_i_BrambleCover_1 slices_IndexFunc_int_int_of_i_BrambleCover_1
  obtain ⟨r, h1, h2, _⟩ := loop_first (L := fun k t => slices_IndexFunc_int_int_of_i_BrambleCover_1_l1 F b ⟨(), (⟨(m : Int)⟩, ())⟩ k t) (n := b.length) (p := fun i => !anyN (fun j => m.testBit j && bq (b.getD i []) j) g.1.toNat) (by
    intro k t ht
    have hbt := hb.at ht
    have h256 : m < 9223372036854775808 := by
      have := Nat.pow_le_pow_right (n := 2) (by decide) (show g.1.toNat ≤ 8 by omega)
      have e : (2 : Nat) ^ 8 = 256 := by decide
      omega
    simp only [slices_IndexFunc_int_int_of_i_BrambleCover_1_l1, i_BrambleCover_1]
    rw [decide_eq_true (show (t : Int) < (b.length : Int) by omega), cond_true, idx_getD (d := []) ht, Option.bind_some, maskSet hg (hset t ht) (by omega) (by unfold Sm; omega), Option.bind_some, Option.bind_some, w64_succ ht (by unfold Sm; omega), iand_nat (mkm_lt63 (by omega)) h256]
    congr 1
    cases hc : anyN (fun j => m.testBit j && bq (b.getD t []) j) g.1.toNat with
    | false => rw [and_zero.2 hc]; rfl
    | true =>
      have : ¬ (mkm (bq (b.getD t [])) g.1.toNat &&& m) = 0 := fun e => by rw [and_zero.1 e] at hc; cases hc
      simp only [Bool.not_true, beq_eq_false_iff_ne, ne_eq]
      omega) (by
    intro k
    simp only [slices_IndexFunc_int_int_of_i_BrambleCover_1_l1]
    rw [decide_eq_false (show ¬ (b.length : Int) < (b.length : Int) by omega), cond_false]) F (by omega)
  rw [h1, Option.bind_some, h2, anyN_not]
  rfl

/-- a list has fewer nodes than the best one, or as many and is less -/
def betC (best l : List Int) : Bool := decide (l.length < best.length) || (l.length == best.length && lexB l best)

/-- the best cover of those with numbers below -/
def bcP (n : Nat) (b : List (List Int)) : Nat → Option (List Int)
  | 0 => none
  | m + 1 => if metB n b m = true then (match bcP n b m with
    | none => some (listN m.testBit n)
    | some c => if betC c (listN m.testBit n) = true then some (listN m.testBit n) else some c) else bcP n b m

theorem bcP_len {n : Nat} {b : List (List Int)} : ∀ m c, bcP n b m = some c → c.length ≤ n
  | 0, c, h => by cases h
  | m + 1, c, h => by
    simp only [bcP] at h
    split at h
    · split at h
      · simp only [Option.some.injEq] at h; subst h; exact listN_le
      · rename_i c' hc
        split at h
        · simp only [Option.some.injEq] at h; subst h; exact listN_le
        · simp only [Option.some.injEq] at h; subst h; exact bcP_len m c' hc
    · exact bcP_len m c h

theorem cnt_full {p : Nat → Bool} : ∀ n, cntN p n = n → ∀ j, j < n → p j = true
  | 0, _, j, hj => by omega
  | n + 1, h, j, hj => by
    have h1 := cnt_le (p := p) (n := n)
    have h2 : cntN p (n + 1) = cntN p n + (if p n then 1 else 0) := by
      simp only [cntN, List.range_succ, List.countP_append, List.countP_singleton]
    rw [h2] at h
    cases hp : p n with
    | false => rw [hp] at h; simp at h; omega
    | true =>
      rw [hp] at h
      simp at h
      by_cases e : j = n
      · subst e; exact hp
      · exact cnt_full n h j (by omega)

theorem last_all {n m : Nat} (hm : m < 2 ^ n) (h : ∀ j, j < n → m.testBit j = true) : m = 2 ^ n - 1 := by
  apply Nat.eq_of_testBit_eq
  intro j
  rw [Nat.testBit_two_pow_sub_one]
  by_cases hj : j < n
  · rw [h j hj, decide_eq_true hj]
  · rw [decide_eq_false hj]
    apply Nat.testBit_lt_two_pow
    exact Nat.lt_of_lt_of_le hm (Nat.pow_le_pow_right (by decide) (by omega))

/-- the reference's best cover of those with numbers below -/
def bcS (n : Nat) (b : List (List Int)) : Nat → List Int
  | 0 => listN (fun _ => true) n
  | m + 1 => if (betC (bcS n b m) (listN m.testBit n) && metB n b m) = true then listN m.testBit n else bcS n b m

theorem bcS_P {n : Nat} {b : List (List Int)} (hfull : metB n b (2 ^ n - 1) = true) : ∀ m, m ≤ 2 ^ n - 1 → bcS n b m = (bcP n b m).getD (listN (fun _ => true) n)
  | 0, _ => rfl
  | m + 1, hm => by
    have ih := bcS_P hfull m (by omega)
    simp only [bcS, bcP]
    cases h : metB n b m with
    | false => simp [ih]
    | true =>
      simp only [Bool.and_true, if_true]
      rw [ih]
      cases hp : bcP n b m with
      | none =>
        have hlen : (listN m.testBit n).length < (listN (fun _ => true) n).length := by
          rw [listN_len, listN_len]
          have e1 : cntN (fun _ => true) n = n := by simp [cntN]
          rw [e1]
          have h1 := cnt_le (p := m.testBit) (n := n)
          rcases Nat.lt_or_ge (cntN m.testBit n) n with hlt | hge
          · exact hlt
          · exfalso
            have := last_all (n := n) (m := m) (by omega) (cnt_full n (by omega))
            omega
        simp [betC, hlen]
      | some c =>
        simp only [Option.getD_some]
        split <;> simp

theorem bcS_end {n : Nat} {b : List (List Int)} (hfull : metB n b (2 ^ n - 1) = true) : bcP n b (2 ^ n) = some (bcS n b (2 ^ n)) := by
  have hpos := Nat.two_pow_pos n
  obtain ⟨m, hm⟩ : ∃ m, 2 ^ n = m + 1 := ⟨2 ^ n - 1, by omega⟩
  have hm2 : 2 ^ n - 1 = m := by omega
  rw [hm2] at hfull
  have h1 := bcS_P (by rw [hm2]; exact hfull) m (by omega)
  have hl : listN m.testBit n = listN (fun _ => true) n := listN_congr fun j hj => by rw [← hm2, Nat.testBit_two_pow_sub_one, decide_eq_true hj]
  rw [hm]
  simp only [bcS, bcP, hfull, if_true, Bool.and_true]
  rw [h1]
  cases hp : bcP n b m with
  | none =>
    simp only [Option.getD_none]
    rw [hl]
    simp
  | some c =>
    simp only [Option.getD_some]
    split <;> rfl

theorem bcS_len {n : Nat} {b : List (List Int)} : ∀ m, (bcS n b m).length ≤ n
  | 0 => listN_le
  | m + 1 => by
    simp only [bcS]
    split
    · exact listN_le
    · exact bcS_len m

theorem brB_set {g : Gr} {b : List (List Int)} (h : brB g b = true) : ∀ i, i < b.length → setB g.1 (b.getD i []) = true := by
  intro i hi
  unfold brB at h
  simp only [Bool.and_eq_true] at h
  have := allN_iff.1 h.2 i hi
  unfold brP at this
  simp only [Bool.and_eq_true] at this
  exact this.1.1

theorem brB_full {g : Gr} {b : List (List Int)} (hg : good g = true) (h : brB g b = true) : metB g.1.toNat b (2 ^ g.1.toNat - 1) = true := by
  unfold metB
  rw [allN_iff]
  intro i hi
  have hset := brB_set h i hi
  have hne : b.getD i [] ≠ [] := by
    intro e
    unfold brB at h
    simp only [Bool.and_eq_true] at h
    have := allN_iff.1 h.2 i hi
    unfold brP at this
    simp only [Bool.and_eq_true] at this
    have h2 := this.1.2
    rw [e] at h2
    have h4 : fstN (bq []) g.1.toNat = none := fst_none.2 fun j _ => by simp [bq]
    have h3 : ∀ d, prt g d (bq []) = [] := by
      intro d
      cases d with
      | zero => rfl
      | succ d => simp only [prt, h4]
    rw [h3] at h2
    simp at h2
  obtain ⟨x, hx⟩ := List.exists_mem_of_ne_nil _ hne
  have hr := setB_range hset x hx
  rw [anyN_iff]
  refine ⟨x.toNat, by omega, ?_⟩
  rw [Nat.testBit_two_pow_sub_one, decide_eq_true (by omega), Bool.true_and]
  simp only [bq, decide_eq_true_eq]
  rw [Int.toNat_of_nonneg hr.1]
  exact hx

theorem sCover_eq {F n : Nat} {g : Gr} {b : List (List Int)} (hgn : g.1 = (n : Int)) (hn : n ≤ 8) (hb : Bg F b) : s_BrambleCover_l1 F b g F (listN (fun _ => true) n) 0 = some (bcS n b (2 ^ n), true) := by
  have hf := hb.fuel
  have h256 : 2 ^ n ≤ 256 := by
    have := Nat.pow_le_pow_right (n := 2) (by decide) hn
    simpa using this
  refine loop_inv (L := fun k i s => s_BrambleCover_l1 F b g k s i) (n := 2 ^ n) (fun i s => s = bcS n b i) ?_ ?_ F _ (by omega) rfl
  · rintro k i s hi rfl
    refine ⟨_, rfl, ?_⟩
    have hb1 := bcS_len (n := n) (b := b) i
    have hl1 := listN_le (p := i.testBit) (n := n)
    simp only [s_BrambleCover_l1, s_BrambleCover_j2, s_BrambleCover_j1]
    rw [hgn, one_shl (by omega), Option.bind_some, decide_eq_true (show (i : Int) < ((2 ^ n : Nat) : Int) by omega), cond_true, bits_eq (by omega) (by omega) (by omega), Option.bind_some, w64_succ hi (by unfold Sm; omega), sMeets_eq hn hb]
    simp only [Option.bind_some]
    rw [sLess_eq (by omega) (by unfold Sm; omega), Option.bind_some]
    rw [show bcS n b (i + 1) = if (betC (bcS n b i) (listN i.testBit n) && metB n b i) = true then listN i.testBit n else bcS n b i from rfl]
    unfold betC
    by_cases h1 : (listN i.testBit n).length < (bcS n b i).length
    · rw [decide_eq_true (show ((listN i.testBit n).length : Int) < ((bcS n b i).length : Int) by omega), cond_true, decide_eq_true h1]
      cases metB n b i <;> rfl
    · rw [decide_eq_false (show ¬ ((listN i.testBit n).length : Int) < ((bcS n b i).length : Int) by omega), cond_false, decide_eq_false h1, Bool.false_or]
      by_cases h2 : (listN i.testBit n).length = (bcS n b i).length
      · have e1 : (((listN i.testBit n).length : Int) == ((bcS n b i).length : Int)) = true := by simp; omega
        have e2 : ((listN i.testBit n).length == (bcS n b i).length) = true := by simpa using h2
        rw [e1, cond_true, e2, Bool.true_and]
        cases lexB (listN i.testBit n) (bcS n b i) <;> cases metB n b i <;> rfl
      · have e1 : (((listN i.testBit n).length : Int) == ((bcS n b i).length : Int)) = false := by simp; omega
        have e2 : ((listN i.testBit n).length == (bcS n b i).length) = false := by simpa using h2
        rw [e1, cond_false, e2]; rfl
  · rintro k s rfl
    simp only [s_BrambleCover_l1]
    rw [hgn, one_shl (by omega), Option.bind_some, decide_eq_false (show ¬ ((2 ^ n : Nat) : Int) < ((2 ^ n : Nat) : Int) by omega), cond_false]

theorem iCover_eq {F n : Nat} {g : Gr} {b : List (List Int)} (hg : good g = true) (hgn : g.1.toNat = n) (hb : Bg F b) (hset : ∀ i, i < b.length → setB g.1 (b.getD i []) = true) :
    ∃ o f, i_BrambleCover_o_l1 F b ((2 ^ n : Nat) : Int) F .nil false 0 = some (o, true) ∧ (f = (bcP n b (2 ^ n)).isSome ∧ ∀ c, bcP n b (2 ^ n) = some c → o.list = c) := by
  have hf := hb.fuel
  have h8 := good_size hg
  have hn : n ≤ 8 := by omega
  have h256 : 2 ^ n ≤ 256 := by
    have := Nat.pow_le_pow_right (n := 2) (by decide) hn
    simpa using this
  obtain ⟨s, ⟨h1, h2⟩, h3⟩ := loop_ex (L := fun k i (s : NL Int × Bool) => i_BrambleCover_o_l1 F b ((2 ^ n : Nat) : Int) k s.1 s.2 i) (n := 2 ^ n) (fin := fun s => some (s.1, true)) (fun i s => s.2 = (bcP n b i).isSome ∧ ∀ c, bcP n b i = some c → s.1.list = c) (by
    rintro k i ⟨o, f⟩ hi ⟨h1, h2⟩
    simp only at h1 h2
    have hl1 := listN_le (p := i.testBit) (n := n)
    obtain ⟨r, hr1, hr2⟩ := setOf_o_eq (F := F) (n := n) (p := i.testBit) (by omega) (by omega)
    rw [mkm_self hi] at hr1
    have hmiss := iMisses_eq (F := F) (m := i) hg hb (by rw [hgn]; exact hi) hset
    rw [hgn] at hmiss
    simp only [i_BrambleCover_o_l1, i_BrambleCover_o_j1]
    rw [decide_eq_true (show (i : Int) < ((2 ^ n : Nat) : Int) by omega), cond_true, hr1, Option.bind_some, hmiss, Option.bind_some, w64_succ hi (by unfold Sm; omega)]
    simp only [bcP]
    cases hm : metB n b i with
    | false => exact ⟨(o, f), ⟨by simpa using h1, by simpa using h2⟩, rfl⟩
    | true =>
      simp only [if_true, Bool.not_true, cond_false]
      cases hp : bcP n b i with
      | none =>
        rw [hp] at h1
        simp only [Option.isSome_none] at h1
        subst h1
        exact ⟨(r, true), ⟨rfl, fun c hc => by simp only [Option.some.injEq] at hc; rw [← hc]; exact hr2⟩, rfl⟩
      | some c =>
        rw [hp] at h1
        simp only [Option.isSome_some] at h1
        subst h1
        have ho := h2 c hp
        have hcl := bcP_len i c hp
        simp only [cond_true]
        have hlr : r.list.length = (listN i.testBit n).length := by rw [hr2]
        obtain ⟨q, hq1, hq2⟩ := compare_eq (F := F) (a := r.list) (b := o.list) (by omega) (by unfold Sm; omega)
        have hq3 : decide (q ≥ 0) = !lexB (listN i.testBit n) c := by
          rw [← ho, ← hr2, ← hq2]
          by_cases hh : q < 0
          · rw [decide_eq_true hh, decide_eq_false (by omega)]; rfl
          · rw [decide_eq_false hh, decide_eq_true (by omega)]; rfl
        rw [hq1, Option.bind_some, hq3]
        unfold betC
        by_cases e1 : (listN i.testBit n).length < c.length
        · have e2 : decide ((r.list.length : Int) > (o.list.length : Int)) = false := decide_eq_false (by rw [ho]; omega)
          have e3 : ((r.list.length : Int) == (o.list.length : Int)) = false := by rw [ho]; simp; omega
          rw [e2, cond_false, e3, cond_false, decide_eq_true e1, Bool.true_or, if_pos rfl]
          exact ⟨(r, true), ⟨rfl, fun c' hc => by simp only [Option.some.injEq] at hc; rw [← hc]; exact hr2⟩, rfl⟩
        · rw [decide_eq_false e1, Bool.false_or]
          by_cases e2 : (listN i.testBit n).length = c.length
          · have e3 : decide ((r.list.length : Int) > (o.list.length : Int)) = false := decide_eq_false (by rw [ho]; omega)
            have e4 : ((r.list.length : Int) == (o.list.length : Int)) = true := by rw [ho]; simp; omega
            have e5 : ((listN i.testBit n).length == c.length) = true := by simpa using e2
            rw [e3, cond_false, e4, cond_true, e5, Bool.true_and]
            cases hlx : lexB (listN i.testBit n) c with
            | true => exact ⟨(r, true), ⟨rfl, fun c' hc => by simp only [if_true, Option.some.injEq] at hc; rw [← hc]; exact hr2⟩, rfl⟩
            | false => exact ⟨(o, true), ⟨rfl, fun c' hc => by simp only [Bool.false_eq_true, if_false, Option.some.injEq] at hc; rw [← hc]; exact ho⟩, rfl⟩
          · have e3 : decide ((r.list.length : Int) > (o.list.length : Int)) = true := decide_eq_true (by rw [ho]; omega)
            have e5 : ((listN i.testBit n).length == c.length) = false := by simpa using e2
            rw [e3, cond_true, e5, Bool.false_and]
            exact ⟨(o, true), ⟨rfl, fun c' hc => by simp only [Bool.false_eq_true, if_false, Option.some.injEq] at hc; rw [← hc]; exact ho⟩, rfl⟩)
    (by
      rintro k ⟨o, f⟩ ⟨h1, h2⟩
      simp only [i_BrambleCover_o_l1]
      rw [decide_eq_false (show ¬ ((2 ^ n : Nat) : Int) < ((2 ^ n : Nat) : Int) by omega), cond_false]) F (.nil, false) (by omega) ⟨rfl, fun c h => by cases h⟩
  exact ⟨s.1, s.2, h3, h1, h2⟩

theorem exBrambleCover {F : Nat} {g : Gr} {b : List (List Int)} (hb : Bg F b) (hG : g.2.length < F) (hs : Sm g.2.length) :
    ∃ R c o, s_BrambleCover F g b = some (R, c) ∧ i_BrambleCover_o F g b = some (o, c) ∧ o.list = R ∧ R.length ≤ 1000 := by
  have hfu := hb.fuel
  unfold s_BrambleCover i_BrambleCover_o
  rw [l2Good_eq hG hs, isGraph_eq hG (by omega) hs, Option.bind_some, Option.bind_some]
  cases hg : good g with
  | false => exact ⟨[], false, .nil, rfl, rfl, rfl, by simp⟩
  | true =>
    have h8 := good_size hg
    rw [Bool.not_true, cond_false, cond_false, sBr_eq hg hb hG hs, iBr_eq hg hb hG hs, Option.bind_some, Option.bind_some]
    cases hp : brB g b with
    | false => exact ⟨[], false, .nil, rfl, rfl, rfl, by simp⟩
    | true =>
      obtain ⟨n, hn⟩ : ∃ n : Nat, g.1.toNat = n := ⟨_, rfl⟩
      have hgn : g.1 = (n : Int) := by omega
      obtain ⟨o, f, h1, _, h2⟩ := iCover_eq hg hn hb (brB_set hp)
      have hfull := brB_full hg hp
      rw [hn] at hfull
      have hend := bcS_end hfull
      refine ⟨bcS n b (2 ^ n), true, o, ?_, ?_, h2 _ hend, by have := bcS_len (n := n) (b := b) (2 ^ n); omega⟩
      · unfold s_BrambleCover_j3
        rw [Bool.not_true, cond_false, all_eq hg (by omega), Option.bind_some, hn]
        have hall : listN (fun j => decide (j < n)) n = listN (fun _ => true) n := listN_congr fun j hj => decide_eq_true hj
        rw [hall]
        exact sCover_eq hgn (by omega) hb
      · unfold i_BrambleCover_o_j2
        rw [Bool.not_true, cond_false, hgn, one_shl (by omega), Option.bind_some]
        exact h1

end Go.Zq
/- The law BrambleCover, as a plain statement. -/
namespace Go.Zq

theorem sumL0_lens {b : List (List Int)} : ∀ n, n ≤ b.length → sumL0 ((b.take n).map List.length) = sumL b n
  | 0, _ => by simp [sumL0, sumL]
  | n + 1, h => by
    have e : b.take (n + 1) = b.take n ++ [b.getD n []] := by
      rw [List.take_add_one]
      simp [show n < b.length by omega, List.getD_eq_getElem?_getD]
    have e2 : ∀ (xs ys : List Nat), sumL0 (xs ++ ys) = sumL0 xs + sumL0 ys := by
      intro xs ys
      induction xs with
      | nil => simp [sumL0]
      | cons x xs ih => simp only [List.cons_append, sumL0, ih]; omega
    rw [e, List.map_append, e2, sumL0_lens n (by omega)]
    simp [sumL0, sumL]

theorem lawBrambleCover {F : Nat} {g : Gr} {b : List (List Int)} (hF : 2097152 ≤ F) (hg : g.2.length ≤ 9223372036854775807) (hb1 : b.length ≤ 9223372036854775807) (hb2 : ∀ x ∈ b, x.length ≤ 9223372036854775807) : w_FnExactBrambleCover F g b = some true := by
  unfold w_FnExactBrambleCover
  rw [szGraph_eq (by omega) (by omega) hg, Option.bind_some]
  by_cases h2 : (1048576 : Int) - g.2.length < 0
  · simp [h2]
  simp only [h2, if_false, decide_false, cond_false]
  obtain ⟨r, hr, hr2⟩ := szIntSS_eq (F := F) (xs := b) (l := 1048576 - g.2.length) (by omega) (by omega) (by omega) hb1 hb2
  rw [hr, Option.bind_some]
  by_cases h3 : r < 0
  · simp [h3]
  have h4 := hr2 (by omega)
  have hB : Bg F b := Bg.of (by omega) (by omega)
  simp only [h3, decide_false, cond_false]
  obtain ⟨R, c, o, hs, hi, ho, hl⟩ := exBrambleCover (F := F) (g := g) hB (by omega) (by unfold Sm; omega)
  have e1 : w_toGraph F g = some g := toGraph_eq (by omega) (by omega) (by omega)
  have e2 : w_toGraph_o F g = some (g.1, .of g.2) := toGraph_o_eq (by omega) (by omega) (by omega)
  have e3 : w_toIntSS F b = some b := hB.to
  have e4 : w_toIntSS_o F b = some (.of (b.map .of)) := toIntSS_o_eq (by have := hB.len; omega) (by have := hB.len; omega) fun x hx => by have := hB.each x hx; omega
  have e0 : List.map NL.list (NL.of (b.map NL.of) : NL (NL Int)).list = b := by
    show List.map NL.list (b.map NL.of) = b
    rw [List.map_map]
    have : (NL.list ∘ NL.of : List Int → List Int) = id := rfl
    rw [this, List.map_id]
  have e5 : w_eqIntS F o.list R = some true := by rw [ho]; exact eqIntS_eq (by omega) (by unfold Sm; omega)
  have e6 : w_eqGraph F (g.1, (NL.of g.2).list) g = some true := eqGraph_eq (g := g) (by omega) (by unfold Sm; omega) (by omega)
  have e7 : w_eqIntSS F b b = some true := hB.eq
  obtain ⟨yg, e8, _, _⟩ := markGraph_eq (F := F) (a := g.1) (xs := g.2) (k := 1) (by omega) (by omega) (by omega) (by omega) (by omega)
  obtain ⟨ns, hns⟩ : ∃ ns, (NL.of (b.map NL.of) : NL (NL Int)).list.map (fun o => o.list.length) = ns := ⟨_, rfl⟩
  have hns2 : ns = b.map List.length := by
    rw [← hns]
    show List.map _ (b.map NL.of) = _
    rw [List.map_map]; rfl
  have hnl : ns.length = b.length := by rw [hns2, List.length_map]
  have hsum : sumL0 ns = sumL b b.length := by
    have := sumL0_lens (b := b) b.length (Nat.le_refl _)
    rw [List.take_length] at this
    rw [hns2]; exact this
  obtain ⟨o1, m1, _, _⟩ := markIntSS_eq (F := F) (o := .of (b.map NL.of)) (k := 1 + 2 * (g.2.length : Int)) hns (by omega) (by omega) (by unfold Sm; omega) (by omega) (by omega) (by omega)
  have e9 : decide ((1 + 2 * (g.2.length : Int) + ((sumL0 ns : Nat) : Int)) < 0) = false := decide_eq_false (by omega)
  obtain ⟨o2, m2, m3, m4⟩ := markIntS_eq (F := F) (o := o) (k := 1) (by rw [ho]; omega) (by rw [ho]; omega) (by omega) (by omega)
  have e10 : w_heldIntS F o2.list 1 = some (1 + (o.list.length : Int)) := by rw [m4]; exact heldIntS_eq (by rw [ho]; omega) (by rw [ho]; omega) (by omega) (by omega)
  have e11 : decide ((1 + (o.list.length : Int)) < 0) = false := decide_eq_false (by omega)
  have hi1 : i_BrambleCover_o F (g.1, (NL.of g.2).list) b = some (o, c) := hi
  simp only [w_FnExactBrambleCover_j1, w_FnExactBrambleCover_j2, w_FnExactBrambleCover_j3, e0, e1, e2, e3, e4, e5, e6, e7, e8, m1, e9, e10, e11, hs, hi, hi1, m2, m3, Option.bind_some, Bool.not_true, cond_false, bne_self_eq_false]

end Go.Zq
