/- Plain mathematics: what the functions answer (part 2). Conditions: stated in each theorem. -/
import Derived.Test.YthblbfcloccopaaM1
set_option linter.unusedVariables false
set_option linter.unusedSimpArgs false
/- Plain mathematics: steps of a search, in the reference; programs. -/
namespace Go.Zq

theorem cnt_zero {p : Nat → Bool} {n : Nat} : cntN p n = 0 ↔ fstN p n = none := by
  rw [fst_none]
  constructor
  · intro h j hj
    cases hp : p j with
    | false => rfl
    | true =>
      have := cnt_lt (p := fun _ => false) (q := p) (n := n) (by simp) ⟨j, hj, rfl, hp⟩
      omega
  · intro h
    rw [cnt_congr (q := fun _ => false) h]
    unfold cntN
    rw [List.countP_eq_zero]; simp

end Go.Zq
/- Plain mathematics: cops that stay, and treedepth. -/
namespace Go.Zq

end Go.Zq
/- Plain mathematics: parts, and what is connected. -/
namespace Go.Zq

theorem comp_trans {g : Gr} (hg : good g = true) {p : Nat → Bool} {x y z : Nat} (hx : x < g.1.toNat) (hp : p x = true) (h1 : comp g p x y = true) (h2 : comp g p y z = true) : comp g p x z = true :=
  comp_min (C := comp g p x) h1 (fun _ _ h3 h4 h5 => comp_closed hg hx hp h3 h4 h5) h2

theorem comp_symm {g : Gr} (hg : good g = true) {p : Nat → Bool} {x y : Nat} (hx : x < g.1.toNat) (hp : p x = true) (h : comp g p x y = true) : comp g p y x = true := by
  have := comp_min (C := fun j => decide (j < g.1.toNat) && (p j && comp g p j x)) (p := p) (x := x) (j := y) (by simp [hx, hp, comp_self]) (by
    intro a b h1 h2 h3
    simp only [Bool.and_eq_true, decide_eq_true_eq] at h1 ⊢
    have hb : b < g.1.toNat := by
      have := comp_lt hg h1.1 (comp_closed hg h1.1 h1.2.1 comp_self h2 h3)
      exact this
    refine ⟨hb, h2, ?_⟩
    exact comp_trans hg hb h2 (comp_closed hg hb h2 comp_self h1.2.1 (by rw [adj_comm]; exact h3)) h1.2.2) h
  simp only [Bool.and_eq_true] at this
  exact this.2.2

theorem comp_same {g : Gr} (hg : good g = true) {p : Nat → Bool} {x y : Nat} (hx : x < g.1.toNat) (hp : p x = true) (h : comp g p x y = true) (j : Nat) : comp g p x j = comp g p y j := by
  have hy := comp_lt hg hx h
  have hpy := comp_in hp h
  rw [Bool.eq_iff_iff]
  exact ⟨fun h2 => comp_trans hg hy hpy (comp_symm hg hx hp h) h2, fun h2 => comp_trans hg hx hp h h2⟩

theorem prt_mem {g : Gr} (hg : good g = true) : ∀ (d : Nat) (p : Nat → Bool) (m : Nat), cntN p g.1.toNat ≤ d → (m ∈ prt g d p ↔ ∃ x, x < g.1.toNat ∧ p x = true ∧ mkm (comp g p x) g.1.toNat = m)
  | 0, p, m, hd => by
    have h0 : fstN p g.1.toNat = none := cnt_zero.1 (by omega)
    constructor
    · intro h; simp [prt] at h
    · rintro ⟨x, hx, hp, _⟩
      rw [fst_none.1 h0 x hx] at hp; cases hp
  | d + 1, p, m, hd => by
    simp only [prt]
    cases hf : fstN p g.1.toNat with
    | none =>
      constructor
      · intro h; simp at h
      · rintro ⟨x, hx, hp, _⟩
        rw [fst_none.1 hf x hx] at hp; cases hp
    | some x0 =>
      obtain ⟨h0, hp0, _⟩ := fst_some hf
      have ih := prt_mem hg d (fun j => p j && !comp g p x0 j) m (cnt_part h0 hp0 hd)
      have hsub : ∀ x, x < g.1.toNat → (p x && !comp g p x0 x) = true → ∀ j, comp g p x j = comp g (fun j => p j && !comp g p x0 j) x j := by
        intro x hx hq
        refine comp_sub hg hx hq (fun j h => by simp only [Bool.and_eq_true] at h; exact h.1) ?_
        intro y j h1 h2 h3
        simp only [Bool.and_eq_true, Bool.not_eq_true'] at h1 ⊢
        refine ⟨h2, ?_⟩
        cases h4 : comp g p x0 j with
        | false => rfl
        | true =>
          have := comp_closed hg h0 hp0 h4 h1.1 (by rw [adj_comm]; exact h3)
          rw [this] at h1; exact absurd h1.2 (by simp)
      rw [List.mem_cons, ih]
      constructor
      · rintro (rfl | ⟨x, hx, hq, rfl⟩)
        · exact ⟨x0, h0, hp0, rfl⟩
        · have hq2 := hq
          simp only [Bool.and_eq_true] at hq2
          exact ⟨x, hx, hq2.1, mkm_congr fun j _ => hsub x hx hq j⟩
      · rintro ⟨x, hx, hp, rfl⟩
        cases hc : comp g p x0 x with
        | true => exact .inl (mkm_congr fun j _ => (comp_same hg h0 hp0 hc j).symm)
        | false => exact .inr ⟨x, hx, by simp [hp, hc], mkm_congr fun j _ => (hsub x hx (by simp [hp, hc]) j).symm⟩

end Go.Zq
/- Plain mathematics: lists of lists; sets as lists; loops that look for a place. -/
namespace Go.Zq

/-- a loop that looks for the first place -/
theorem loop_first {L : Nat → Int → Option Int} {n : Nat} {p : Nat → Bool} (hs : ∀ k i, i < n → L (k + 1) (i : Int) = bif p i then some (i : Int) else L k ((i + 1 : Nat) : Int)) (he : ∀ k, L (k + 1) (n : Int) = some (-1)) :
    ∀ k, n < k → ∃ r, L k 0 = some r ∧ decide (r ≥ 0) = anyN p n ∧ ∀ i, fstN p n = some i → r = i := by
  have key : ∀ d k i, i + d = n → d < k → (∀ j, j < i → p j = false) → ∃ r, L k (i : Int) = some r ∧ decide (r ≥ 0) = anyN p n ∧ ∀ i, fstN p n = some i → r = i := by
    intro d
    induction d with
    | zero =>
      intro k i hi hk hp
      obtain ⟨k, rfl⟩ : ∃ k', k = k' + 1 := ⟨k - 1, by omega⟩
      obtain rfl : i = n := by omega
      refine ⟨-1, he k, ?_, ?_⟩
      · have : anyN p i = false := by
          rw [Bool.eq_false_iff]; intro h
          obtain ⟨j, hj, h⟩ := anyN_iff.1 h
          rw [hp j hj] at h; cases h
        rw [this]; decide
      · intro j hj
        have := fst_some hj
        rw [hp j this.1] at this; cases this.2.1
    | succ d ih =>
      intro k i hi hk hp
      obtain ⟨k, rfl⟩ : ∃ k', k = k' + 1 := ⟨k - 1, by omega⟩
      rw [hs k i (by omega)]
      cases hpi : p i with
      | true =>
        refine ⟨i, by rw [cond_true], ?_, ?_⟩
        · rw [anyN_iff.2 ⟨i, by omega, hpi⟩]; simp
        · intro j hj
          obtain ⟨h1, h2, h3⟩ := fst_some hj
          have a1 : ¬ i < j := fun h => by rw [h3 i h] at hpi; cases hpi
          have a2 : ¬ j < i := fun h => by rw [hp j h] at h2; cases h2
          omega
      | false =>
        rw [cond_false]
        refine ih k (i + 1) (by omega) (by omega) ?_
        intro j hj
        by_cases e : j = i
        · subst e; exact hpi
        · exact hp j (by omega)
  intro k hk
  exact key n k 0 (by omega) hk (fun j hj => absurd hj (by omega))

-- lists of lists
def sumL (xs : List (List Int)) : Nat → Nat
  | 0 => 0
  | i + 1 => sumL xs i + (xs.getD i []).length
theorem sumL_mono {xs : List (List Int)} : ∀ {i j : Nat}, i ≤ j → sumL xs i ≤ sumL xs j
  | i, 0, h => by obtain rfl : i = 0 := by omega
                  exact Nat.le_refl _
  | i, j + 1, h => by
    by_cases e : i = j + 1
    · subst e; exact Nat.le_refl _
    · have := sumL_mono (xs := xs) (i := i) (j := j) (by omega)
      simp only [sumL]; omega
theorem sumL_le {xs : List (List Int)} {i : Nat} (h : i < xs.length) : (xs.getD i []).length ≤ sumL xs xs.length := by
  have := sumL_mono (xs := xs) (i := i + 1) (j := xs.length) (by omega)
  simp only [sumL] at this; omega

end Go.Zq
/- Plain mathematics: least values over lists; tables over sets, from below and from above. -/
namespace Go.Zq

theorem lt256 {n m : Nat} (hn : n ≤ 8) (h : m < 2 ^ n) : m < 256 := Nat.lt_of_lt_of_le h (by
  have := Nat.pow_le_pow_right (n := 2) (by decide) hn
  simpa using this)

end Go.Zq
/- Plain mathematics: fronts. -/
namespace Go.Zq

end Go.Zq
/- Plain mathematics: path decompositions. -/
namespace Go.Zq

structure Bg (F : Nat) (bags : List (List Int)) : Prop where
  len : bags.length ≤ 1048576
  each : ∀ x ∈ bags, x.length ≤ 1048576
  fuel : 1048577 ≤ F

theorem Bg.at {F : Nat} {bags : List (List Int)} (h : Bg F bags) {i : Nat} (hi : i < bags.length) : (bags.getD i []).length ≤ 1048576 := h.each _ (getD_mem hi)

theorem Bg.of {F : Nat} {bags : List (List Int)} (h : bags.length + sumL bags bags.length ≤ 1048576) (hF : 1048577 ≤ F) : Bg F bags := by
  refine ⟨by omega, fun x hx => ?_, hF⟩
  obtain ⟨i, hi, e⟩ := List.mem_iff_getElem.1 hx
  have := sumL_le hi
  rw [List.getD_eq_getElem?_getD, List.getElem?_eq_getElem hi, Option.getD_some, e] at this
  omega
end Go.Zq
/- Plain mathematics: sets of nodes as lists and as numbers; brambles. -/
namespace Go.Zq

end Go.Zq
/- Plain mathematics: own copies of arguments; lists that are marked. -/
namespace Go.Zq

end Go.Zq
/- Plain mathematics: fronts, as lists of one's own. -/
namespace Go.Zq

theorem listN_le {p : Nat → Bool} {n : Nat} : (listN p n).length ≤ n := by rw [listN_len]; exact cnt_le

end Go.Zq
/- Plain mathematics: the cutwidth of a layout. -/
namespace Go.Zq

end Go.Zq
/- Plain mathematics: the sizes of the fronts of a layout. -/
namespace Go.Zq

end Go.Zq
/- Plain mathematics: the program of a layout. -/
namespace Go.Zq

end Go.Zq
/- Plain mathematics: neighbors as lists. -/
namespace Go.Zq

theorem listN_s {p : Nat → Bool} {n : Nat} : listN p (n + 1) = if p n then listN p n ++ [(n : Int)] else listN p n := by
  rw [listN_succ]; cases p n <;> simp
theorem l7Low_eq {F : Nat} {l : List Int} {r : Int} (hF : l.length < F) (hl : l.length ≤ 1000) : s_l7Low F l r = some (listN (fun j => decide (l.getD j 0 ≤ r)) l.length) := by
  unfold s_l7Low
  refine loop_inv (L := fun k t s => s_l7Low_l1 F l r k s t) (n := l.length) (fun t s => s = listN (fun j => decide (l.getD j 0 ≤ r)) t) ?_ ?_ F [] (by omega) rfl
  · rintro k t s ht rfl
    refine ⟨_, rfl, ?_⟩
    have hle := listN_le (p := fun j => decide (l.getD j 0 ≤ r)) (n := t)
    simp only [s_l7Low_l1, s_l7Low_j1]
    rw [decide_eq_true (show (t : Int) < l.length by omega), cond_true, idx_getD (d := 0) ht, Option.bind_some, w64_succ ht (by unfold Sm; omega), listN_s]
    cases decide (l.getD t 0 ≤ r) with
    | true => rw [cond_true, appL_one (by omega), Option.bind_some]; rfl
    | false => rfl
  · rintro k s rfl
    simp only [s_l7Low_l1]
    rw [decide_eq_false (show ¬ (l.length : Int) < l.length by omega), cond_false]

end Go.Zq
/- Plain mathematics: sets that stop a fire. -/
namespace Go.Zq

theorem cnt_split {p q : Nat → Bool} : ∀ n, cntN p n = cntN (fun j => q j && p j) n + cntN (fun j => p j && !q j) n := by
  intro n
  rw [cnt_sum, cnt_sum, cnt_sum, ← sum_add]
  refine sum_congr fun i _ => ?_
  cases p i <;> cases q i <;> rfl

end Go.Zq
/- Plain mathematics: rankings. -/
namespace Go.Zq

/-- nodes with at most a number; nodes with just this number -/
def lowP (l : List Int) (r : Int) (j : Nat) : Bool := decide (l.getD j 0 ≤ r)
def ownP (l : List Int) (r : Int) (j : Nat) : Bool := l.getD j 0 == r

/-- a node of the same number is met -/
def meets (g : Gr) (l : List Int) (x : Nat) : Bool := anyN (fun y => comp g (lowP l (l.getD x 0)) x y && ((y != x) && (l.getD y 0 == l.getD x 0))) g.1.toNat

theorem anyN_listN {p q : Nat → Bool} {n : Nat} : anyN (fun i => q ((listN p n).getD i 0).toNat) (listN p n).length = anyN (fun j => p j && q j) n := by
  rw [Bool.eq_iff_iff, anyN_iff, anyN_iff]
  constructor
  · rintro ⟨i, hi, h⟩
    obtain ⟨a, ha, han, hap⟩ := listN_get hi
    rw [ha, Int.toNat_natCast] at h
    exact ⟨a, han, by rw [hap, h]; rfl⟩
  · rintro ⟨j, hj, h⟩
    simp only [Bool.and_eq_true] at h
    have hm : (j : Int) ∈ listN p n := listN_mem.2 ⟨j, rfl, hj, h.1⟩
    obtain ⟨i, hi, e⟩ := List.getElem_of_mem hm
    refine ⟨i, hi, ?_⟩
    rw [List.getD_eq_getElem?_getD, List.getElem?_eq_getElem hi, Option.getD_some, e, Int.toNat_natCast]
    exact h.2

theorem sRk_eq {F : Nat} {g : Gr} {l : List Int} (hF : l.length < F) (hG : g.2.length < F) (h9 : 60 ≤ F) (hl : Sm l.length) (hs : Sm g.2.length) :
    s_IsRanking F g l = some (bif good g then (bif ((l.length : Int) == g.1) then allN (fun x => !decide (l.getD x 0 < 1) && !meets g l x) g.1.toNat else false, true) else (false, false)) := by
  unfold s_IsRanking
  rw [l2Good_eq hG hs, Option.bind_some]
  cases h : good g with
  | false => rfl
  | true =>
    have h8 := good_size h
    simp only [Bool.not_true, cond_false, cond_true]
    rw [bne]
    cases hlen : ((l.length : Int) == g.1) with
    | false => rfl
    | true =>
      have hlen : (l.length : Int) = g.1 := by simpa using hlen
      simp only [Bool.not_true, cond_false, cond_true]
      obtain ⟨n, hn⟩ : ∃ n : Nat, g.1.toNat = n := ⟨_, rfl⟩
      have hln : l.length = n := by omega
      rw [loop_all (L := fun k i => s_IsRanking_l2 F l g k i) (n := g.1.toNat) (p := fun x => !decide (l.getD x 0 < 1) && !meets g l x) (bad := some (false, true)) (fin := some (true, true)) ?_ ?_ F (by omega)]
      · cases allN (fun x => !decide (l.getD x 0 < 1) && !meets g l x) g.1.toNat <;> rfl
      · intro k x hx
        simp only [s_IsRanking_l2]
        rw [decide_eq_true (show (x : Int) < g.1 by omega), cond_true, idx_getD (d := 0) (by omega), Option.bind_some]
        cases h1 : decide (l.getD x 0 < 1) with
        | true => rfl
        | false =>
          have hlow : lowP l (l.getD x 0) x = true := by unfold lowP; exact decide_eq_true (Int.le_refl _)
          have hle := listN_le (p := comp g (lowP l (l.getD x 0)) x) (n := g.1.toNat)
          rw [cond_false, Option.bind_some, l7Low_eq hF (by omega), Option.bind_some, hln, ← hn]
          have e1 : s_l2Reach F g (listN (fun j => decide (l.getD j 0 ≤ l.getD x 0)) g.1.toNat) (x : Int) = some (listN (comp g (lowP l (l.getD x 0)) x) g.1.toNat) := reach_eq (p := lowP l (l.getD x 0)) h hx hlow (F := F) (by omega) hG hs
          rw [e1, Option.bind_some]
          rw [loop_all (L := fun k2 i => s_IsRanking_l1 F l g (x : Int) (listN (comp g (lowP l (l.getD x 0)) x) g.1.toNat) (s_IsRanking_l2 F l g k) k2 i) (n := (listN (comp g (lowP l (l.getD x 0)) x) g.1.toNat).length) (p := fun i => !(((listN (comp g (lowP l (l.getD x 0)) x) g.1.toNat).getD i 0).toNat != x && l.getD ((listN (comp g (lowP l (l.getD x 0)) x) g.1.toNat).getD i 0).toNat 0 == l.getD x 0)) (bad := some (false, true)) (fin := s_IsRanking_l2 F l g k ((x + 1 : Nat) : Int)) ?_ ?_ F (by omega)]
          · have e2 : allN (fun i => !(((listN (comp g (lowP l (l.getD x 0)) x) g.1.toNat).getD i 0).toNat != x && l.getD ((listN (comp g (lowP l (l.getD x 0)) x) g.1.toNat).getD i 0).toNat 0 == l.getD x 0)) (listN (comp g (lowP l (l.getD x 0)) x) g.1.toNat).length = !meets g l x := by
              unfold meets
              rw [← anyN_listN (q := fun y => (y != x) && (l.getD y 0 == l.getD x 0)), anyN_eq, Bool.not_not]
            rw [e2]
            cases meets g l x <;> rfl
          · intro k2 i hi
            obtain ⟨a, ha, han, hap⟩ := listN_get hi
            simp only [s_IsRanking_l1, s_IsRanking_j1]
            rw [decide_eq_true (show (i : Int) < ((listN (comp g (lowP l (l.getD x 0)) x) g.1.toNat).length : Int) by omega), cond_true, idx_getD (d := 0) hi, Option.bind_some, Option.bind_some, ha, idx_getD (d := 0) (by omega), Option.bind_some, idx_getD (d := 0) (by omega), Option.bind_some, w64_succ hi (by unfold Sm; omega), Int.toNat_natCast]
            have e3 : ((a : Int) != (x : Int)) = (a != x) := by
              rw [Bool.eq_iff_iff, bne_iff_ne, bne_iff_ne]; omega
            rw [e3]
            cases (a != x) <;> cases (l.getD a 0 == l.getD x 0) <;> rfl
          · intro k2
            simp only [s_IsRanking_l1]
            rw [decide_eq_false (show ¬ ((listN (comp g (lowP l (l.getD x 0)) x) g.1.toNat).length : Int) < ((listN (comp g (lowP l (l.getD x 0)) x) g.1.toNat).length : Int) by omega), cond_false, w64_succ hx (by unfold Sm; omega)]
      · intro k
        simp only [s_IsRanking_l2]
        rw [decide_eq_false (show ¬ (g.1.toNat : Int) < g.1 by omega), cond_false]

theorem sum_mono {f h : Nat → Nat} : ∀ {n : Nat}, (∀ i, i < n → f i ≤ h i) → sumN f n ≤ sumN h n
  | 0, _ => Nat.le_refl _
  | n + 1, hh => by
    have := sum_mono (n := n) fun i hi => hh i (by omega)
    have := hh n (by omega)
    simp only [sumN]; omega

theorem mask_step {p : Nat → Bool} {n i : Nat} (hi : i < n) (hn : n ≤ 8) : ∀ b : Bool, p i = b → (bif b then ior .i64 ((mkm (fun j => decide (j < i) && p j) n : Nat) : Int) ((2 ^ i : Nat) : Int) else ((mkm (fun j => decide (j < i) && p j) n : Nat) : Int)) = ((mkm (fun j => decide (j < i + 1) && p j) n : Nat) : Int) := by
  intro b hb
  have key : ∀ j, (decide (j < i + 1) && p j) = ((decide (j < i) && p j) || (j == i && b)) := by
    intro j
    by_cases e : j = i
    · subst e; simp [hb]
    · have e1 : (j == i) = false := by simpa using e
      have e2 : decide (j < i + 1) = decide (j < i) := by rw [decide_eq_decide]; omega
      rw [e1, e2]; simp
  cases b with
  | false =>
    rw [cond_false]
    congr 1
    apply mkm_congr
    intro j _
    rw [key]; simp
  | true =>
    rw [cond_true, ior_nat (mkm_lt63 (by omega)) (pow_lt (by omega))]
    congr 1
    refine mkm_of fun j => ?_
    rw [Nat.testBit_or, mkm_bit, Nat.testBit_two_pow, key]
    by_cases e : j = i
    · subst e; simp [hi]
    · have e1 : (j == i) = false := by simpa using e
      rw [e1, decide_eq_false (show ¬ i = j by omega)]; simp

theorem getD_map_nat {ms : List Nat} {i : Nat} (hi : i < ms.length) : (ms.map fun (m : Nat) => (m : Int)).getD i 0 = ((ms.getD i 0 : Nat) : Int) := by
  rw [List.getD_eq_getElem?_getD, List.getD_eq_getElem?_getD, List.getElem?_map, List.getElem?_eq_getElem hi]; rfl

/-- two nodes of a part have the number -/
theorem parts_meet {g : Gr} {l : List Int} {r : Int} (hg : good g = true) :
    anyN (fun i => decide (((cntN (fun j => ((prt g g.1.toNat (lowP l r)).getD i 0).testBit j && ownP l r j) g.1.toNat : Nat) : Int) > 1)) (prt g g.1.toNat (lowP l r)).length = true ↔
    ∃ x, x < g.1.toNat ∧ l.getD x 0 = r ∧ meets g l x = true := by
  have hm := fun m => prt_mem hg g.1.toNat (lowP l r) m cnt_le
  have hge : ∀ i, i < (prt g g.1.toNat (lowP l r)).length → (prt g g.1.toNat (lowP l r)).getD i 0 ∈ prt g g.1.toNat (lowP l r) := by
    intro i hi
    rw [List.getD_eq_getElem?_getD, List.getElem?_eq_getElem hi]; exact List.getElem_mem hi
  rw [anyN_iff]
  constructor
  · rintro ⟨i, hi, h⟩
    obtain ⟨z, hz, hp, e⟩ := (hm _).1 (hge i hi)
    rw [← e] at h
    simp only [decide_eq_true_eq] at h
    -- two of them
    have h2 : ∃ a b, a < g.1.toNat ∧ b < g.1.toNat ∧ a ≠ b ∧ ((mkm (comp g (lowP l r) z) g.1.toNat).testBit a && ownP l r a) = true ∧ ((mkm (comp g (lowP l r) z) g.1.toNat).testBit b && ownP l r b) = true := by
      obtain ⟨q, hq⟩ : ∃ q : Nat → Bool, (fun j => (mkm (comp g (lowP l r) z) g.1.toNat).testBit j && ownP l r j) = q := ⟨_, rfl⟩
      have hq2 : ∀ a, ((mkm (comp g (lowP l r) z) g.1.toNat).testBit a && ownP l r a) = q a := fun a => congrFun hq a
      simp only [hq2] at h ⊢
      change ((cntN q g.1.toNat : Nat) : Int) > 1 at h
      cases hf : fstN q g.1.toNat with
      | none =>
        have := cnt_zero.2 hf
        omega
      | some a =>
        obtain ⟨ha, hqa, _⟩ := fst_some hf
        have hle : cntN q g.1.toNat ≤ cntN (fun j => q j && !(j == a)) g.1.toNat + 1 := by
          have hd : sumN (fun j => if (j == a) = true then 1 else 0) g.1.toNat ≤ 1 := by
            have := sum_delta (f := fun _ => 1) (n := g.1.toNat) ha
            have e : sumN (fun j => if (j == a) = true then 1 else 0) g.1.toNat = sumN (fun y => if y = a then 1 else 0) g.1.toNat := by
              apply sum_congr; intro y _; by_cases hy : y = a <;> simp [hy]
            omega
          have := cnt_split (p := q) (q := fun j => j == a) g.1.toNat
          have h3 : cntN (fun j => (j == a) && q j) g.1.toNat ≤ cntN (fun j => j == a) g.1.toNat := cnt_mono fun j _ h => by simp only [Bool.and_eq_true] at h; exact h.1
          rw [cnt_sum (p := fun j => j == a)] at h3
          omega
        cases hf2 : fstN (fun j => q j && !(j == a)) g.1.toNat with
        | none =>
          have := cnt_zero.2 hf2
          omega
        | some b =>
          obtain ⟨hb, hqb, _⟩ := fst_some hf2
          simp only [Bool.and_eq_true, Bool.not_eq_true', beq_eq_false_iff_ne] at hqb
          exact ⟨a, b, ha, hb, fun e => hqb.2 e.symm, hqa, hqb.1⟩
    obtain ⟨a, b, ha, hb, hab, h3, h4⟩ := h2
    rw [mkm_bit, decide_eq_true ha, Bool.true_and] at h3
    rw [mkm_bit, decide_eq_true hb, Bool.true_and] at h4
    simp only [Bool.and_eq_true, ownP, beq_iff_eq] at h3 h4
    refine ⟨a, ha, h3.2, ?_⟩
    unfold meets
    rw [anyN_iff]
    refine ⟨b, hb, ?_⟩
    rw [h3.2, h4.2]
    have hpa : lowP l r a = true := comp_in hp h3.1
    have := comp_trans hg ha hpa (comp_symm hg hz hp h3.1) h4.1
    simp [this, Ne.symm hab]
  · rintro ⟨x, hx, hr, h⟩
    unfold meets at h
    obtain ⟨y, hy, h⟩ := anyN_iff.1 h
    rw [hr] at h
    simp only [Bool.and_eq_true, bne_iff_ne, ne_eq, beq_iff_eq] at h
    have hpx : lowP l r x = true := by unfold lowP; exact decide_eq_true (by omega)
    have hmem := (hm _).2 ⟨x, hx, hpx, rfl⟩
    obtain ⟨i, hi, e⟩ := List.getElem_of_mem hmem
    refine ⟨i, hi, ?_⟩
    rw [List.getD_eq_getElem?_getD, List.getElem?_eq_getElem hi, Option.getD_some, e, decide_eq_true_eq]
    have key : 2 ≤ cntN (fun j => (mkm (comp g (lowP l r) x) g.1.toNat).testBit j && ownP l r j) g.1.toNat := by
      have h1 : sumN (fun j => (if j = x then 1 else 0) + (if j = y then 1 else 0)) g.1.toNat ≤ cntN (fun j => (mkm (comp g (lowP l r) x) g.1.toNat).testBit j && ownP l r j) g.1.toNat := by
        rw [cnt_sum]
        refine sum_mono fun j hj => ?_
        by_cases e1 : j = x
        · subst e1
          have hne : ¬ j = y := fun e => h.2.1 e.symm
          have : ((mkm (comp g (lowP l r) j) g.1.toNat).testBit j && ownP l r j) = true := by
            have ho : ownP l r j = true := by unfold ownP; rw [hr]; exact beq_self_eq_true r
            rw [mkm_bit, decide_eq_true hj, comp_self, ho]; rfl
          simp [hne, this]
        · by_cases e2 : j = y
          · subst e2
            have : ((mkm (comp g (lowP l r) x) g.1.toNat).testBit j && ownP l r j) = true := by
              have ho : ownP l r j = true := by unfold ownP; rw [h.2.2]; exact beq_self_eq_true r
              rw [mkm_bit, decide_eq_true hj, h.1, ho]; rfl
            simp [e1, this]
          · simp [e1, e2]
      rw [sum_add, sum_delta (f := fun _ => 1) hx, sum_delta (f := fun _ => 1) hy] at h1
      exact h1
    omega

end Go.Zq
/- Plain mathematics: whether it is a ranking, in the program. -/
namespace Go.Zq

/-- a part has two nodes of the number -/
def pmB (g : Gr) (l : List Int) (r : Int) : Bool := anyN (fun i => decide (((cntN (fun j => ((prt g g.1.toNat (lowP l r)).getD i 0).testBit j && ownP l r j) g.1.toNat : Nat) : Int) > 1)) (prt g g.1.toNat (lowP l r)).length

theorem prt_len {g : Gr} : ∀ (d : Nat) (p : Nat → Bool), (prt g d p).length ≤ d
  | 0, p => Nat.le_refl _
  | d + 1, p => by
    simp only [prt]
    split
    · simp
    · rename_i x _
      simp only [List.length_cons]
      have := prt_len (g := g) d (fun j => p j && !comp g p x j)
      omega

theorem iInnerRk {F : Nat} {g : Gr} {l : List Int} {t : Int} {r : Int} {c1 : Int → Option (Bool × Bool)} (hg : good g = true) (hlen : (l.length : Int) = g.1) (hF : 60 ≤ F) :
    i_IsRanking_l1 F l ⟨nearL g⟩ r t c1 F 0 0 0 = bif pmB g l r then some (false, true) else c1 (w64 (t + 1)) := by
  have h8 := good_size hg
  obtain ⟨n, hn⟩ : ∃ n : Nat, g.1.toNat = n := ⟨_, rfl⟩
  have hln : l.length = n := by omega
  refine loop_inv (L := fun k i (s : Int × Int) => i_IsRanking_l1 F l ⟨nearL g⟩ r t c1 k s.1 s.2 i) (n := l.length) (fun i s => s = (((mkm (fun j => decide (j < i) && lowP l r j) n : Nat) : Int), ((mkm (fun j => decide (j < i) && ownP l r j) n : Nat) : Int))) ?_ ?_ F (0, 0) (by omega) ?_
  · rintro k i s hi rfl
    refine ⟨_, rfl, ?_⟩
    have e1 := mask_step (p := lowP l r) (i := i) (n := n) (by omega) (by omega) _ rfl
    have e2 := mask_step (p := ownP l r) (i := i) (n := n) (by omega) (by omega) _ rfl
    simp only [i_IsRanking_l1, i_IsRanking_j2, i_IsRanking_j1]
    rw [decide_eq_true (show (i : Int) < l.length by omega), cond_true, idx_getD (d := 0) hi, Option.bind_some, one_shl (by omega), Option.bind_some, Option.bind_some, w64_succ hi (by unfold Sm; omega), ← e1, ← e2]
    show (bif lowP l r i then (bif ownP l r i then _ else _) else (bif ownP l r i then _ else _)) = _
    cases lowP l r i <;> cases ownP l r i <;> rfl
  · rintro k s rfl
    simp only [i_IsRanking_l1]
    rw [decide_eq_false (show ¬ (l.length : Int) < l.length by omega), cond_false]
    have e1 : mkm (fun j => decide (j < l.length) && lowP l r j) n = mkm (lowP l r) n := by
      apply mkm_congr; intro j hj; rw [decide_eq_true (by omega), Bool.true_and]
    have e2 : mkm (fun j => decide (j < l.length) && ownP l r j) n = mkm (ownP l r) n := by
      apply mkm_congr; intro j hj; rw [decide_eq_true (by omega), Bool.true_and]
    rw [e1, e2, ← hn, parts_eq hg (by omega), Option.bind_some]
    unfold slices_ContainsFunc_of_i_IsRanking_2 slices_IndexFunc_of_i_IsRanking_2
    have hpl := prt_len (g := g) g.1.toNat (lowP l r)
    obtain ⟨q, h5, h6, _⟩ := loop_first (L := fun k i => slices_IndexFunc_of_i_IsRanking_2_l1 F ((prt g g.1.toNat (lowP l r)).map fun (m : Nat) => (m : Int)) ⟨(), ⟨((mkm (ownP l r) g.1.toNat : Nat) : Int)⟩, ()⟩ k i) (n := (prt g g.1.toNat (lowP l r)).length) (p := fun i => decide (((cntN (fun j => ((prt g g.1.toNat (lowP l r)).getD i 0).testBit j && ownP l r j) g.1.toNat : Nat) : Int) > 1)) (by
      intro k i hi
      have hmem : (prt g g.1.toNat (lowP l r)).getD i 0 ∈ prt g g.1.toNat (lowP l r) := by
        rw [List.getD_eq_getElem?_getD, List.getElem?_eq_getElem hi]; exact List.getElem_mem hi
      obtain ⟨hlt, _⟩ := prt_sub hg _ _ _ hmem
      obtain ⟨m, hm⟩ : ∃ m, (prt g g.1.toNat (lowP l r)).getD i 0 = m := ⟨_, rfl⟩
      rw [hm] at hlt
      have h256 := lt256 (by omega) hlt
      obtain ⟨c, hcd⟩ : ∃ c, m &&& mkm (ownP l r) g.1.toNat = c := ⟨_, rfl⟩
      have hc := iand_nat (a := m) (b := mkm (ownP l r) g.1.toNat) (by omega) (mkm_lt63 (by omega))
      rw [hcd] at hc
      have e : c = mkm (fun j => m.testBit j && ownP l r j) g.1.toNat := by
        apply Nat.eq_of_testBit_eq
        intro j
        rw [← hcd, Nat.testBit_and, mkm_bit, mkm_bit]
        cases hj : decide (j < g.1.toNat) with
        | true => simp
        | false => simp
      simp only [slices_IndexFunc_of_i_IsRanking_2_l1, i_IsRanking_2, List.length_map]
      rw [decide_eq_true (show (i : Int) < ((prt g g.1.toNat (lowP l r)).length : Int) by omega), cond_true, idx_getD (d := 0) (by simpa using hi), Option.bind_some, getD_map_nat hi, hm, hc, ones_eq (by rw [e]; exact mkm_256 (by omega)), Option.bind_some, Option.bind_some, w64_succ hi (by unfold Sm; omega), e, popc_mkm (by omega)]) (by
      intro k
      simp only [slices_IndexFunc_of_i_IsRanking_2_l1, List.length_map]
      rw [decide_eq_false (show ¬ ((prt g g.1.toNat (lowP l r)).length : Int) < ((prt g g.1.toNat (lowP l r)).length : Int) by omega), cond_false]) F (by omega)
    rw [h5, Option.bind_some, Option.bind_some, h6]
    rfl
  · have : ∀ p : Nat → Bool, mkm (fun j => decide (j < 0) && p j) n = 0 := by
      intro p
      rw [mkm_congr (q := fun _ => false) (fun j _ => by simp)]
      apply Nat.eq_of_testBit_eq; intro j; rw [mkm_bit]; simp
    rw [this, this]; rfl

theorem iRk_eq {F : Nat} {g : Gr} {l : List Int} (hF : l.length < F) (hG : g.2.length < F) (h9 : 60 ≤ F) (hl : Sm l.length) (hs : Sm g.2.length) :
    i_IsRanking F g l = some (bif good g then (bif ((l.length : Int) == g.1) then allN (fun x => !decide (l.getD x 0 < 1) && !meets g l x) g.1.toNat else false, true) else (false, false)) := by
  unfold i_IsRanking
  rw [isGraph_eq hG (by omega) hs, Option.bind_some]
  cases h : good g with
  | false => rfl
  | true =>
    have h8 := good_size h
    simp only [Bool.not_true, cond_false, cond_true]
    rw [bne]
    cases hlen : ((l.length : Int) == g.1) with
    | false => rfl
    | true =>
      have hlen : (l.length : Int) = g.1 := by simpa using hlen
      simp only [Bool.not_true, cond_false, cond_true]
      unfold slices_ContainsFunc_of_i_IsRanking_1 slices_IndexFunc_of_i_IsRanking_1
      obtain ⟨q, h5, h6, _⟩ := loop_first (L := fun k i => slices_IndexFunc_of_i_IsRanking_1_l1 F l k i) (n := l.length) (p := fun i => decide (l.getD i 0 < 1)) (by
        intro k i hi
        simp only [slices_IndexFunc_of_i_IsRanking_1_l1, i_IsRanking_1]
        rw [decide_eq_true (show (i : Int) < (l.length : Int) by omega), cond_true, idx_getD (d := 0) hi, Option.bind_some, Option.bind_some, w64_succ hi hl]) (by
        intro k
        simp only [slices_IndexFunc_of_i_IsRanking_1_l1]
        rw [decide_eq_false (show ¬ (l.length : Int) < (l.length : Int) by omega), cond_false]) F hF
      rw [h5, Option.bind_some, Option.bind_some, h6]
      have hln : l.length = g.1.toNat := by omega
      cases h7 : anyN (fun i => decide (l.getD i 0 < 1)) l.length with
      | true =>
        obtain ⟨i, hi, h8⟩ := anyN_iff.1 h7
        have : allN (fun x => !decide (l.getD x 0 < 1) && !meets g l x) g.1.toNat = false := by
          rw [Bool.eq_false_iff]
          intro hh
          have := allN_iff.1 hh i (by omega)
          rw [h8] at this; simp at this
        rw [this]; rfl
      | false =>
        simp only [i_IsRanking_j3, cond_false]
        rw [netOf_eq h hG hs, Option.bind_some]
        rw [loop_all (L := fun k i => i_IsRanking_l2 F l ⟨nearL g⟩ k i) (n := l.length) (p := fun x => !pmB g l (l.getD x 0)) (bad := some (false, true)) (fin := some (true, true)) ?_ ?_ F hF]
        · have : allN (fun x => !pmB g l (l.getD x 0)) l.length = allN (fun x => !decide (l.getD x 0 < 1) && !meets g l x) g.1.toNat := by
            rw [Bool.eq_iff_iff, allN_iff, allN_iff]
            constructor
            · intro hh x hx
              have h1 : decide (l.getD x 0 < 1) = false := by
                cases hd : decide (l.getD x 0 < 1) with
                | false => rfl
                | true =>
                  have := (anyN_iff (p := fun i => decide (l.getD i 0 < 1)) (n := l.length)).2 ⟨x, (by omega : x < l.length), hd⟩
                  rw [h7] at this; cases this
              rw [h1]
              have h2 := hh x (by omega)
              cases hm : meets g l x with
              | false => rfl
              | true =>
                have : pmB g l (l.getD x 0) = true := (parts_meet h).2 ⟨x, hx, rfl, hm⟩
                rw [this] at h2; cases h2
            · intro hh x hx
              cases hp : pmB g l (l.getD x 0) with
              | false => rfl
              | true =>
                obtain ⟨y, hy, _, hm⟩ := (parts_meet h).1 hp
                have := hh y hy
                rw [hm] at this; simp at this
          rw [this]
          cases allN (fun x => !decide (l.getD x 0 < 1) && !meets g l x) g.1.toNat <;> rfl
        · intro k i hi
          simp only [i_IsRanking_l2]
          rw [decide_eq_true (show (i : Int) < l.length by omega), cond_true, idx_getD (d := 0) hi, Option.bind_some, iInnerRk h hlen h9, w64_succ hi hl]
          cases pmB g l (l.getD i 0) <;> rfl
        · intro k
          simp only [i_IsRanking_l2]
          rw [decide_eq_false (show ¬ (l.length : Int) < l.length by omega), cond_false]

end Go.Zq
/- The law IsRanking, as a plain statement. -/
namespace Go.Zq

theorem lawIsRanking {F : Nat} {g : Gr} {l : List Int} (hF : 2097152 ≤ F) (hg : g.2.length ≤ 9223372036854775807) : w_FnExactIsRanking F g l = some true := by
  unfold w_FnExactIsRanking
  by_cases h : (l.length : Int) > 1048576
  · simp [h]
  simp only [h, decide_false, cond_false]
  rw [szGraph_eq (by omega) (by omega) hg, Option.bind_some]
  by_cases h2 : (1048576 : Int) - g.2.length < 0
  · simp [h2]
  simp only [h2, if_false, decide_false, cond_false]
  rw [toGraph_eq (by omega) (by omega) (by omega), toIntS_eq (by omega) (by omega)]
  simp only [Option.bind_some]
  rw [sRk_eq (by omega) (by omega) (by omega) (by unfold Sm; omega) (by unfold Sm; omega), iRk_eq (by omega) (by omega) (by omega) (by unfold Sm; omega) (by unfold Sm; omega)]
  simp only [Option.bind_some, bne_self_eq_false, cond_false, w_FnExactIsRanking_j1]
  rw [toGraph_eq (by omega) (by omega) (by omega), toIntS_eq (by omega) (by omega)]
  simp only [Option.bind_some]
  rw [eqGraph_eq (by omega) (by unfold Sm; omega) (by omega), eqIntS_eq (by omega) (by unfold Sm; omega)]
  rfl

end Go.Zq
