/- Plain mathematics: what the functions answer (part 2). Conditions: stated in each theorem. -/
import Derived.Test.YtonidecbmdpfhaaM1
set_option linter.unusedVariables false
set_option linter.unusedSimpArgs false
/- Plain mathematics: steps of a search, in the reference; programs. -/
namespace Go.Zq

theorem cnt_zero {p : Nat → Bool} {n : Nat} : cntN p n = 0 ↔ fstN p n = none := by
  rw [fst_none]
  constructor
  · intro h j hj
    cases hp : p j with
    | false => rfl
    | true =>
      have := cnt_lt (p := fun _ => false) (q := p) (n := n) (by simp) ⟨j, hj, rfl, hp⟩
      omega
  · intro h
    rw [cnt_congr (q := fun _ => false) h]
    unfold cntN
    rw [List.countP_eq_zero]; simp

end Go.Zq
/- Plain mathematics: cops that stay, and treedepth. -/
namespace Go.Zq

end Go.Zq
/- Plain mathematics: parts, and what is connected. -/
namespace Go.Zq

end Go.Zq
/- Plain mathematics: lists of lists; sets as lists; loops that look for a place. -/
namespace Go.Zq

/-- a loop that looks for the first place -/
theorem loop_first {L : Nat → Int → Option Int} {n : Nat} {p : Nat → Bool} (hs : ∀ k i, i < n → L (k + 1) (i : Int) = bif p i then some (i : Int) else L k ((i + 1 : Nat) : Int)) (he : ∀ k, L (k + 1) (n : Int) = some (-1)) :
    ∀ k, n < k → ∃ r, L k 0 = some r ∧ decide (r ≥ 0) = anyN p n ∧ ∀ i, fstN p n = some i → r = i := by
  have key : ∀ d k i, i + d = n → d < k → (∀ j, j < i → p j = false) → ∃ r, L k (i : Int) = some r ∧ decide (r ≥ 0) = anyN p n ∧ ∀ i, fstN p n = some i → r = i := by
    intro d
    induction d with
    | zero =>
      intro k i hi hk hp
      obtain ⟨k, rfl⟩ : ∃ k', k = k' + 1 := ⟨k - 1, by omega⟩
      obtain rfl : i = n := by omega
      refine ⟨-1, he k, ?_, ?_⟩
      · have : anyN p i = false := by
          rw [Bool.eq_false_iff]; intro h
          obtain ⟨j, hj, h⟩ := anyN_iff.1 h
          rw [hp j hj] at h; cases h
        rw [this]; decide
      · intro j hj
        have := fst_some hj
        rw [hp j this.1] at this; cases this.2.1
    | succ d ih =>
      intro k i hi hk hp
      obtain ⟨k, rfl⟩ : ∃ k', k = k' + 1 := ⟨k - 1, by omega⟩
      rw [hs k i (by omega)]
      cases hpi : p i with
      | true =>
        refine ⟨i, by rw [cond_true], ?_, ?_⟩
        · rw [anyN_iff.2 ⟨i, by omega, hpi⟩]; simp
        · intro j hj
          obtain ⟨h1, h2, h3⟩ := fst_some hj
          have a1 : ¬ i < j := fun h => by rw [h3 i h] at hpi; cases hpi
          have a2 : ¬ j < i := fun h => by rw [hp j h] at h2; cases h2
          omega
      | false =>
        rw [cond_false]
        refine ih k (i + 1) (by omega) (by omega) ?_
        intro j hj
        by_cases e : j = i
        · subst e; exact hpi
        · exact hp j (by omega)
  intro k hk
  exact key n k 0 (by omega) hk (fun j hj => absurd hj (by omega))

-- lists of lists
def sumL (xs : List (List Int)) : Nat → Nat
  | 0 => 0
  | i + 1 => sumL xs i + (xs.getD i []).length
theorem sumL_mono {xs : List (List Int)} : ∀ {i j : Nat}, i ≤ j → sumL xs i ≤ sumL xs j
  | i, 0, h => by obtain rfl : i = 0 := by omega
                  exact Nat.le_refl _
  | i, j + 1, h => by
    by_cases e : i = j + 1
    · subst e; exact Nat.le_refl _
    · have := sumL_mono (xs := xs) (i := i) (j := j) (by omega)
      simp only [sumL]; omega
theorem sumL_le {xs : List (List Int)} {i : Nat} (h : i < xs.length) : (xs.getD i []).length ≤ sumL xs xs.length := by
  have := sumL_mono (xs := xs) (i := i + 1) (j := xs.length) (by omega)
  simp only [sumL] at this; omega

end Go.Zq
/- Plain mathematics: least values over lists; tables over sets, from below and from above. -/
namespace Go.Zq


end Go.Zq
/- Plain mathematics: fronts. -/
namespace Go.Zq

end Go.Zq
/- Plain mathematics: path decompositions. -/
namespace Go.Zq

structure Bg (F : Nat) (bags : List (List Int)) : Prop where
  len : bags.length ≤ 1048576
  each : ∀ x ∈ bags, x.length ≤ 1048576
  fuel : 1048577 ≤ F

theorem Bg.at {F : Nat} {bags : List (List Int)} (h : Bg F bags) {i : Nat} (hi : i < bags.length) : (bags.getD i []).length ≤ 1048576 := h.each _ (getD_mem hi)

theorem Bg.of {F : Nat} {bags : List (List Int)} (h : bags.length + sumL bags bags.length ≤ 1048576) (hF : 1048577 ≤ F) : Bg F bags := by
  refine ⟨by omega, fun x hx => ?_, hF⟩
  obtain ⟨i, hi, e⟩ := List.mem_iff_getElem.1 hx
  have := sumL_le hi
  rw [List.getD_eq_getElem?_getD, List.getElem?_eq_getElem hi, Option.getD_some, e] at this
  omega
end Go.Zq
/- Plain mathematics: sets of nodes as lists and as numbers; brambles. -/
namespace Go.Zq

/-- the nodes of a list -/
def bq (l : List Int) (j : Nat) : Bool := decide ((j : Int) ∈ l)

end Go.Zq
/- Plain mathematics: own copies of arguments; lists that are marked. -/
namespace Go.Zq

theorem toIntA2S_o_eq {F : Nat} {xs : List (Int × Int)} (hF : xs.length < F) (hl : xs.length ≤ 1099511627776) (h3 : 3 ≤ F) : w_toIntA2S_o F xs = some (.of xs) := by
  unfold w_toIntA2S_o
  rw [mkN_nat hl, Option.bind_some]
  refine loop_inv (L := fun k i s => w_toIntA2S_o_l1 F xs k s i) (n := xs.length) (fun i ys => ys.length = xs.length ∧ ys.take i = xs.take i) ?_ ?_ F _ hF (by simp)
  · intro k i s hi hI
    refine ⟨_, copied hI hi, ?_⟩
    simp only [w_toIntA2S_o_l1]
    rw [idx_nat hi, idx_nat (by omega), w64_succ hi (by unfold Sm; omega)]
    simp [hi, toIntA2_eq h3]
  · intro k s hI
    simp only [w_toIntA2S_o_l1]
    rw [copied_end hI]; simp

theorem toGraph_o_eq {F : Nat} {g : Int × List (Int × Int)} (hF : g.2.length < F) (hl : g.2.length ≤ 1099511627776) (h3 : 3 ≤ F) : w_toGraph_o F g = some (g.1, .of g.2) := by
  unfold w_toGraph_o
  rw [toIntA2S_o_eq hF hl h3]; rfl

/-- what a marked list is -/
def mkd (n : Nat) (k : Int) : List Int := (List.range n).map fun (i : Nat) => k + (i : Int)
theorem mkd_length {n : Nat} {k : Int} : (mkd n k).length = n := by simp [mkd]
theorem mkd_get {n i : Nat} {k : Int} (h : i < n) : idx (mkd n k) (i : Int) = some (k + i) := by
  rw [idx_nat (by rw [mkd_length]; exact h)]
  simp [mkd]

theorem markIntS_eq {F : Nat} {o : NL Int} {k : Int} (hF : o.list.length < F) (hl : o.list.length ≤ 1099511627776) (h0 : 0 ≤ k) (hk : k ≤ 4611686018427387904) :
    ∃ o', w_markIntS F ⟨o⟩ k = some (k + o.list.length, o') ∧ remark o o' = some o' ∧ o'.list = mkd o.list.length k := by
  cases o with
  | nil =>
    obtain ⟨j, rfl⟩ : ∃ j, F = j + 1 := ⟨F - 1, by omega⟩
    exact ⟨.nil, by simp [w_markIntS, w_markIntS_l1, NL.list], rfl, by simp [NL.list, mkd]⟩
  | of xs =>
    simp only [NL.list] at hF hl ⊢
    obtain ⟨s, ⟨ys, h1, h2, h3, h4⟩, h5⟩ := loop_ex (L := fun j i (s : NL Int × Int) => w_markIntS_l1 F j s.1 s.2 i) (n := xs.length) (fin := fun s => some (s.2, s.1))
      (fun i s => ∃ ys : List Int, s.1 = .of ys ∧ ys.length = xs.length ∧ s.2 = k + i ∧ ∀ j, j < i → ys[j]? = some (k + (j : Int)))
      (by
        rintro j i ⟨a, b⟩ hi ⟨ys, rfl, h2, rfl, h4⟩
        refine ⟨(.of (ys.set i (k + i)), k + ((i + 1 : Nat) : Int)), ⟨_, rfl, by simp [h2], rfl, ?_⟩, ?_⟩
        · intro m hm
          rw [List.getElem?_set]
          by_cases e : i = m
          · subst e; simp [h2, hi]
          · simp only [e, if_false]; exact h4 m (by omega)
        · simp only [w_markIntS_l1, NL.list]
          have : decide ((i : Int) < (ys.length : Int)) = true := by simp; omega
          change (bif decide ((i : Int) < (ys.length : Int)) then _ else _) = _
          rw [this, cond_true, idx_nat (by omega), Option.bind_some, w64_succ hi (by unfold Sm; omega), w64_id (x := k + i + 1) (by omega) (by omega)]
          simp only [NL.set, Int.toNat_natCast]
          congr 1
          omega)
      (by
        rintro j ⟨a, b⟩ ⟨ys, rfl, h2, rfl, h4⟩
        simp only [w_markIntS_l1, NL.list, h2]
        simp) F (.of xs, k) hF ⟨xs, rfl, rfl, by simp, by simp⟩
    obtain ⟨a, b⟩ := s
    simp only at h1 h3 h5
    subst h1; subst h3
    refine ⟨.of ys, ?_, by simp [remark, h2], ?_⟩
    · unfold w_markIntS; exact h5
    · simp only [NL.list]
      apply List.ext_getElem?
      intro i
      by_cases hi : i < xs.length
      · rw [h4 i hi]; simp [mkd, hi]
      · rw [List.getElem?_eq_none (by omega), List.getElem?_eq_none (by rw [mkd_length]; omega)]

theorem heldIntS_eq {F n : Nat} {k : Int} (hF : n < F) (hl : n ≤ 1099511627776) (h0 : 0 ≤ k) (hk : k ≤ 4611686018427387904) : w_heldIntS F (mkd n k) k = some (k + n) := by
  unfold w_heldIntS
  refine loop_inv (L := fun j i s => w_heldIntS_l1 F (mkd n k) j s i) (n := n) (fun i s => s = k + (i : Int)) ?_ ?_ F _ hF (by simp)
  · rintro j i s hi rfl
    refine ⟨_, rfl, ?_⟩
    simp only [w_heldIntS_l1, mkd_length]
    have : decide ((i : Int) < (n : Int)) = true := by simpa using hi
    rw [this, cond_true, mkd_get hi, Option.bind_some, w64_succ hi (by unfold Sm; omega), w64_id (x := k + i + 1) (by omega) (by omega)]
    simp only [bne_self_eq_false, cond_false]
    congr 1
    omega
  · rintro j s rfl
    simp only [w_heldIntS_l1, mkd_length]
    simp

theorem set2_length {α : Type} {xs : List (α × α)} {i : Nat} {j : Int} {b : α} : (set2 xs i j b).length = xs.length := by
  unfold set2
  split <;> simp

theorem markGraph_eq {F : Nat} {a : Int} {xs : List (Int × Int)} {k : Int} (hF : xs.length < F) (h3 : 3 ≤ F) (hl : xs.length ≤ 1099511627776) (h0 : 0 ≤ k) (hk : k ≤ 4611686018427387904) :
    w_markGraph F ⟨a, .of xs⟩ k = some (k + 2 * xs.length) := by
  obtain ⟨s, ⟨ys, h1, h2, h4⟩, h5⟩ := loop_ex (L := fun j i (s : NL (Int × Int) × Int) => w_markIntA2S_l2 F j s.1 s.2 i) (n := xs.length) (fin := fun s => some (s.2, s.1))
      (fun i s => ∃ ys : List (Int × Int), s.1 = .of ys ∧ ys.length = xs.length ∧ s.2 = k + 2 * (i : Int))
      (by
        rintro j i ⟨a, b⟩ hi ⟨ys, rfl, h2, rfl⟩
        refine ⟨(.of (set2 (set2 ys i 0 (k + 2 * i)) i 1 (k + 2 * i + 1)), k + 2 * ((i + 1 : Nat) : Int)), ⟨_, rfl, by simp [set2_length, h2], rfl⟩, ?_⟩
        simp only [w_markIntA2S_l2, NL.list]
        have : decide ((i : Int) < (ys.length : Int)) = true := by simp; omega
        change (bif decide ((i : Int) < (ys.length : Int)) then _ else _) = _
        rw [this, cond_true]
        obtain ⟨f, rfl⟩ : ∃ f, F = f + 3 := ⟨F - 3, by omega⟩
        rw [w_markIntA2S_l1]
        simp only [NL.list]
        rw [idx_nat (by omega)]
        rw [show (decide ((0 : Int) < 2)) = true from rfl, cond_true, Option.bind_some]
        rw [show idx [(ys[i]'(by omega)).1, (ys[i]'(by omega)).2] 0 = some (ys[i]'(by omega)).1 from rfl, Option.bind_some]
        rw [show w64 (0 + 1) = 1 from by decide, w64_id (x := k + 2 * i + 1) (by omega) (by omega)]
        simp only [NL.set2, Int.toNat_natCast]
        rw [w_markIntA2S_l1]
        simp only [NL.list]
        rw [idx_nat (by rw [set2_length]; omega)]
        rw [show (decide ((1 : Int) < 2)) = true from rfl, cond_true, Option.bind_some]
        rw [show ∀ u v : Int, idx [u, v] 1 = some v from fun _ _ => rfl, Option.bind_some]
        rw [show w64 (1 + 1) = 2 from by decide, w64_id (x := k + 2 * i + 1 + 1) (by omega) (by omega)]
        simp only [NL.set2, Int.toNat_natCast]
        rw [w_markIntA2S_l1]
        rw [show (decide ((2 : Int) < 2)) = false from rfl, cond_false, w64_succ hi (by unfold Sm; omega)]
        congr 1
        omega)
      (by
        rintro j ⟨a, b⟩ ⟨ys, rfl, h2, rfl⟩
        simp only [w_markIntA2S_l2, NL.list, h2]
        simp) F (.of xs, k) hF ⟨xs, rfl, rfl, by simp⟩
  obtain ⟨u, b⟩ := s
  simp only at h1 h4 h5
  subst h1; subst h4
  unfold w_markGraph w_markIntA2S
  rw [h5]; rfl

end Go.Zq
/- Plain mathematics: fronts, as lists of one's own. -/
namespace Go.Zq

theorem listN_le {p : Nat → Bool} {n : Nat} : (listN p n).length ≤ n := by rw [listN_len]; exact cnt_le

end Go.Zq
/- Plain mathematics: the cutwidth of a layout. -/
namespace Go.Zq

end Go.Zq
/- Plain mathematics: the sizes of the fronts of a layout. -/
namespace Go.Zq

end Go.Zq
/- Plain mathematics: the program of a layout. -/
namespace Go.Zq

theorem mkm_drop {A : Nat → Bool} {n a : Nat} (hn : n ≤ 8) (ha : a < n) : iandNot .i64 ((mkm A n : Nat) : Int) ((2 ^ a : Nat) : Int) = ((mkm (fun j => A j && !(j == a)) n : Nat) : Int) := by
  obtain ⟨c, hc, _, hb⟩ := iandNot_nat (mkm_lt63 (p := A) (n := n) (by omega)) (pow_lt (j := a) (by omega))
  rw [hc]
  congr 1
  apply Nat.eq_of_testBit_eq
  intro j
  rw [hb, mkm_bit, mkm_bit, Nat.testBit_two_pow]
  by_cases e : j = a
  · subst e; simp
  · have e1 : (j == a) = false := by simpa using e
    rw [e1, decide_eq_false (show ¬ a = j by omega)]
    simp

theorem filter_listN {A B : Nat → Bool} : ∀ n, (listN A n).filter (fun y => B y.toNat) = listN (fun j => A j && B j) n
  | 0 => rfl
  | n + 1 => by
    rw [listN_succ, listN_succ, List.filter_append, filter_listN n]
    congr 1
    cases h : A n
    · rfl
    · simp only [Bool.true_and, if_true, List.filter_cons, List.filter_nil, Int.toNat_natCast]

theorem takeS {l : List Int} {k a : Nat} (hk : k < l.length) (ha : l.getD k 0 = (a : Int)) : l.take (k + 1) = l.take k ++ [(a : Int)] := by
  rw [List.take_add_one]
  rw [List.getD_eq_getElem?_getD, List.getElem?_eq_getElem hk] at ha
  simp only [Option.getD_some] at ha
  rw [List.getElem?_eq_getElem hk, ha]; rfl

end Go.Zq
/- Plain mathematics: neighbors as lists. -/
namespace Go.Zq

theorem listN_s {p : Nat → Bool} {n : Nat} : listN p (n + 1) = if p n then listN p n ++ [(n : Int)] else listN p n := by
  rw [listN_succ]; cases p n <;> simp
theorem nbrs_eq {F x : Nat} {g : Gr} (hg : good g = true) (hF : 20 ≤ F) (hG : g.2.length < F) (hs : Sm g.2.length) : s_l2Neighbors F g (x : Int) = some (listN (adj g x) g.1.toNat) := by
  have h8 := good_size hg
  unfold s_l2Neighbors
  refine loop_inv (L := fun k t s => s_l2Neighbors_l1 F (x : Int) g k s t) (n := g.1.toNat) (fun t s => s = listN (adj g x) t) ?_ ?_ F [] (by omega) rfl
  · rintro k t s ht rfl
    refine ⟨_, rfl, ?_⟩
    have hle := listN_le (p := adj g x) (n := t)
    simp only [s_l2Neighbors_l1, s_l2Neighbors_j1]
    rw [decide_eq_true (show (t : Int) < g.1 by omega), cond_true, near_eq hG hs, Option.bind_some, w64_succ ht (by unfold Sm; omega), listN_s]
    cases adj g x t with
    | true => rw [cond_true, appL_one (by omega), Option.bind_some]; rfl
    | false => rfl
  · rintro k s rfl
    simp only [s_l2Neighbors_l1]
    rw [decide_eq_false (show ¬ (g.1.toNat : Int) < g.1 by omega), cond_false]

end Go.Zq
/- Plain mathematics: sets that stop a fire. -/
namespace Go.Zq

theorem cnt_split {p q : Nat → Bool} : ∀ n, cntN p n = cntN (fun j => q j && p j) n + cntN (fun j => p j && !q j) n := by
  intro n
  rw [cnt_sum, cnt_sum, cnt_sum, ← sum_add]
  refine sum_congr fun i _ => ?_
  cases p i <;> cases q i <;> rfl

theorem mkm_nz {p : Nat → Bool} {n : Nat} : (((mkm p n : Nat) : Int) != 0) = anyN p n := by
  rw [Bool.eq_iff_iff, bne_iff_ne, anyN_iff]
  constructor
  · intro h
    have hne : mkm p n ≠ 0 := by exact_mod_cast h
    obtain ⟨i, hi⟩ := Nat.exists_testBit_of_ne_zero hne
    rw [mkm_bit] at hi
    simp only [Bool.and_eq_true, decide_eq_true_eq] at hi
    exact ⟨i, hi.1, hi.2⟩
  · rintro ⟨i, h1, h2⟩ h
    have : (mkm p n).testBit i = true := by rw [mkm_bit, decide_eq_true h1, h2]; rfl
    have h0 : mkm p n = 0 := by exact_mod_cast h
    rw [h0] at this; simp at this

end Go.Zq
/- Plain mathematics: rankings. -/
namespace Go.Zq

/-- nodes with at most a number; nodes with just this number -/
def lowP (l : List Int) (r : Int) (j : Nat) : Bool := decide (l.getD j 0 ≤ r)
/-- a node of the same number is met -/
def meets (g : Gr) (l : List Int) (x : Nat) : Bool := anyN (fun y => comp g (lowP l (l.getD x 0)) x y && ((y != x) && (l.getD y 0 == l.getD x 0))) g.1.toNat

theorem anyN_listN {p q : Nat → Bool} {n : Nat} : anyN (fun i => q ((listN p n).getD i 0).toNat) (listN p n).length = anyN (fun j => p j && q j) n := by
  rw [Bool.eq_iff_iff, anyN_iff, anyN_iff]
  constructor
  · rintro ⟨i, hi, h⟩
    obtain ⟨a, ha, han, hap⟩ := listN_get hi
    rw [ha, Int.toNat_natCast] at h
    exact ⟨a, han, by rw [hap, h]; rfl⟩
  · rintro ⟨j, hj, h⟩
    simp only [Bool.and_eq_true] at h
    have hm : (j : Int) ∈ listN p n := listN_mem.2 ⟨j, rfl, hj, h.1⟩
    obtain ⟨i, hi, e⟩ := List.getElem_of_mem hm
    refine ⟨i, hi, ?_⟩
    rw [List.getD_eq_getElem?_getD, List.getElem?_eq_getElem hi, Option.getD_some, e, Int.toNat_natCast]
    exact h.2

end Go.Zq
/- Plain mathematics: cliques; perfect eliminations. -/
namespace Go.Zq

theorem fst_eq {P : Nat → Bool} {n a : Nat} (ha : a < n) (h : P a = true) (hm : ∀ j, j < a → P j = false) : fstN P n = some a := by
  cases hf : fstN P n with
  | none => rw [fst_none.1 hf a ha] at h; cases h
  | some b =>
    obtain ⟨hb, hPb, hmb⟩ := fst_some hf
    congr 1
    rcases Nat.lt_trichotomy a b with h1 | h1 | h1
    · rw [hmb a h1] at h; cases h
    · exact h1.symm
    · rw [hm b h1] at hPb; cases hPb

theorem first_listN {p q : Nat → Bool} {n : Nat} : fstN (fun j => p j && q j) n = (fstN (fun i => q ((listN p n).getD i 0).toNat) (listN p n).length).map fun i => ((listN p n).getD i 0).toNat := by
  cases hf : fstN (fun i => q ((listN p n).getD i 0).toNat) (listN p n).length with
  | none =>
    rw [Option.map_none, fst_none]
    intro j hj
    cases hp : p j with
    | false => rfl
    | true =>
      have hm : (j : Int) ∈ listN p n := listN_mem.2 ⟨j, rfl, hj, hp⟩
      obtain ⟨i, hi, e⟩ := List.getElem_of_mem hm
      have := fst_none.1 hf i hi
      rw [List.getD_eq_getElem?_getD, List.getElem?_eq_getElem hi, Option.getD_some, e, Int.toNat_natCast] at this
      rw [this]; rfl
  | some i =>
    obtain ⟨hi, hq, hm⟩ := fst_some hf
    obtain ⟨a, ha, han, hap⟩ := listN_get hi
    rw [Option.map_some, ha, Int.toNat_natCast]
    rw [ha, Int.toNat_natCast] at hq
    refine fst_eq han (by rw [hap, hq]; rfl) ?_
    intro j hj
    cases hp : p j with
    | false => rfl
    | true =>
      have hm2 : (j : Int) ∈ listN p n := listN_mem.2 ⟨j, rfl, by omega, hp⟩
      obtain ⟨t, ht, e⟩ := List.getElem_of_mem hm2
      have e2 : (listN p n).getD t 0 = (j : Int) := by rw [List.getD_eq_getElem?_getD, List.getElem?_eq_getElem ht, Option.getD_some, e]
      have hlt : t < i := by
        rcases Nat.lt_trichotomy t i with h1 | h1 | h1
        · exact h1
        · subst h1; rw [ha] at e2; omega
        · have := srt_lt listN_srt h1 ht
          rw [ha, e2] at this; omega
      have := hm t hlt
      rw [e2, Int.toNat_natCast] at this
      rw [this]; rfl

/-- all nodes of a set are neighbors of each other -/
def clq (g : Gr) (p : Nat → Bool) : Bool := !anyN (fun x => p x && anyN (fun y => p y && !(adj g x y || y == x)) g.1.toNat) g.1.toNat

theorem clq_iff {g : Gr} {p : Nat → Bool} : clq g p = true ↔ ∀ x y, x < g.1.toNat → y < g.1.toNat → p x = true → p y = true → x ≠ y → adj g x y = true := by
  unfold clq
  rw [Bool.not_eq_true', Bool.eq_false_iff, ne_eq, anyN_iff]
  constructor
  · intro h x y hx hy h1 h2 hne
    cases ha : adj g x y with
    | true => rfl
    | false =>
      refine absurd ⟨x, hx, ?_⟩ h
      rw [h1, Bool.true_and, anyN_iff]
      exact ⟨y, hy, by simp [h2, ha, Ne.symm hne]⟩
  · rintro h ⟨x, hx, h1⟩
    simp only [Bool.and_eq_true] at h1
    obtain ⟨y, hy, h2⟩ := anyN_iff.1 h1.2
    simp only [Bool.and_eq_true, Bool.not_eq_true', Bool.or_eq_false_iff, beq_eq_false_iff_ne] at h2
    have := h x y hx hy h1.1 h2.1 (fun e => h2.2.2 e.symm)
    rw [h2.2.1] at this; cases this

theorem or_bit {A : Nat → Bool} {n x : Nat} (hn : n ≤ 8) (hx : x < n) : ior .i64 ((mkm A n : Nat) : Int) ((2 ^ x : Nat) : Int) = ((mkm (fun j => A j || j == x) n : Nat) : Int) := by
  rw [ior_nat (mkm_lt63 (by omega)) (pow_lt (by omega))]
  congr 1
  refine mkm_of fun j => ?_
  rw [Nat.testBit_or, mkm_bit, Nat.testBit_two_pow]
  by_cases e : x = j
  · subst e
    have : decide (x < n) = true := decide_eq_true (by omega)
    rw [this]; simp
  · have h1 : decide (x = j) = false := by simpa using e
    have h2 : (j == x) = false := by simp; omega
    rw [h1, h2]; simp

theorem and_mkm {A B : Nat → Bool} {n : Nat} (hn : n ≤ 8) : iand .i64 ((mkm A n : Nat) : Int) ((mkm B n : Nat) : Int) = ((mkm (fun j => A j && B j) n : Nat) : Int) := by
  rw [iand_nat (mkm_lt63 (by omega)) (mkm_lt63 (by omega))]
  congr 1
  apply Nat.eq_of_testBit_eq
  intro j
  rw [Nat.testBit_and, mkm_bit, mkm_bit, mkm_bit]
  cases decide (j < n) <;> simp

theorem andNot_mkm {A B : Nat → Bool} {n : Nat} (hn : n ≤ 8) : iandNot .i64 ((mkm A n : Nat) : Int) ((mkm B n : Nat) : Int) = ((mkm (fun j => A j && !B j) n : Nat) : Int) := by
  obtain ⟨c, hc, _, hb⟩ := iandNot_nat (mkm_lt63 (p := A) (n := n) (by omega)) (mkm_lt63 (p := B) (n := n) (by omega))
  rw [hc]
  congr 1
  apply Nat.eq_of_testBit_eq
  intro j
  rw [hb, mkm_bit, mkm_bit, mkm_bit]
  cases decide (j < n) <;> simp

theorem iClique_eq {F : Nat} {g : Gr} {p : Nat → Bool} (hg : good g = true) (hF : 20 ≤ F) : i_net_isClique F ⟨nearL g⟩ ((mkm p g.1.toNat : Nat) : Int) = some (clq g p) := by
  have h8 := good_size hg
  have hle := listN_le (p := p) (n := g.1.toNat)
  unfold i_net_isClique slices_ContainsFunc_of_i_net_isClique_1 slices_IndexFunc_of_i_net_isClique_1
  rw [setOf_eq (by omega) hF, Option.bind_some]
  obtain ⟨q, h5, h6, _⟩ := loop_first (L := fun k i => slices_IndexFunc_of_i_net_isClique_1_l1 F (listN p g.1.toNat) ⟨(), ⟨((mkm p g.1.toNat : Nat) : Int)⟩, ⟨⟨nearL g⟩⟩, ()⟩ k i) (n := (listN p g.1.toNat).length) (p := fun i => anyN (fun y => p y && !(adj g ((listN p g.1.toNat).getD i 0).toNat y || y == ((listN p g.1.toNat).getD i 0).toNat)) g.1.toNat) (by
    intro k i hi
    obtain ⟨a, ha, han, hap⟩ := listN_get hi
    simp only [slices_IndexFunc_of_i_net_isClique_1_l1, i_net_isClique_1, i_net_closed]
    rw [decide_eq_true (show (i : Int) < ((listN p g.1.toNat).length : Int) by omega), cond_true, idx_getD (d := 0) hi, Option.bind_some, ha, idx_getD (d := 0) (by rw [nearL_len]; omega), Option.bind_some, nearL_get han, one_shl (by omega), Option.bind_some, or_bit (by omega) han, Option.bind_some, andNot_mkm (by omega), mkm_nz, Option.bind_some, w64_succ hi (by unfold Sm; omega), Int.toNat_natCast]) (by
    intro k
    simp only [slices_IndexFunc_of_i_net_isClique_1_l1]
    rw [decide_eq_false (show ¬ ((listN p g.1.toNat).length : Int) < ((listN p g.1.toNat).length : Int) by omega), cond_false]) F (by omega)
  rw [h5, Option.bind_some, Option.bind_some, h6]
  have := anyN_listN (p := p) (q := fun x => anyN (fun y => p y && !(adj g x y || y == x)) g.1.toNat) (n := g.1.toNat)
  rw [this]; rfl

theorem sClique_eq {F : Nat} {g : Gr} {p : Nat → Bool} (hg : good g = true) (hF : 20 ≤ F) (hG : g.2.length < F) (hs : Sm g.2.length) : s_l5Clique F g (listN p g.1.toNat) = some (clq g p) := by
  have h8 := good_size hg
  obtain ⟨X, hX⟩ : ∃ X, listN p g.1.toNat = X := ⟨_, rfl⟩
  have hle := listN_le (p := p) (n := g.1.toNat)
  have hget : ∀ i, i < X.length → ∃ a : Nat, X.getD i 0 = a ∧ a < g.1.toNat ∧ p a = true := by rw [← hX]; exact fun i hi => listN_get hi
  have hsrt : Srt X := by rw [← hX]; exact listN_srt
  rw [hX] at hle ⊢
  unfold s_l5Clique
  have hin : ∀ k i, i < X.length → s_l5Clique_l1 F X g (i : Int) (s_l5Clique_l2 F X g k) F (w64 ((i : Int) + 1)) = bif allN (fun t => (decide (t ≤ i)) || adj g (X.getD i 0).toNat (X.getD t 0).toNat) X.length then s_l5Clique_l2 F X g k ((i + 1 : Nat) : Int) else some false := by
    intro k i hi
    obtain ⟨a, ha, han, _⟩ := hget i hi
    have key : ∀ d k2 t, t + d = X.length → d < k2 → i < t → (∀ j, j < t → (decide (j ≤ i) || adj g (X.getD i 0).toNat (X.getD j 0).toNat) = true) → s_l5Clique_l1 F X g (i : Int) (s_l5Clique_l2 F X g k) k2 (t : Int) = bif allN (fun t => (decide (t ≤ i)) || adj g (X.getD i 0).toNat (X.getD t 0).toNat) X.length then s_l5Clique_l2 F X g k ((i + 1 : Nat) : Int) else some false := by
      intro d
      induction d with
      | zero =>
        intro k2 t ht hk hit hall
        obtain ⟨k2, rfl⟩ : ∃ k', k2 = k' + 1 := ⟨k2 - 1, by omega⟩
        obtain rfl : t = X.length := by omega
        simp only [s_l5Clique_l1]
        rw [decide_eq_false (show ¬ (X.length : Int) < X.length by omega), cond_false, allN_iff.2 hall, cond_true, w64_succ hi (by unfold Sm; omega)]
      | succ d ih =>
        intro k2 t ht hk hit hall
        obtain ⟨k2, rfl⟩ : ∃ k', k2 = k' + 1 := ⟨k2 - 1, by omega⟩
        have htl : t < X.length := by omega
        obtain ⟨b, hb, hbn, _⟩ := hget t htl
        simp only [s_l5Clique_l1]
        rw [decide_eq_true (show (t : Int) < X.length by omega), cond_true, idx_getD (d := 0) hi, Option.bind_some, idx_getD (d := 0) htl, Option.bind_some, ha, hb, near_eq hG hs, Option.bind_some, w64_succ htl (by unfold Sm; omega)]
        cases hab : adj g a b with
        | true =>
          rw [Bool.not_true, cond_false]
          have := ih k2 (t + 1) (by omega) (by omega) (by omega) (by
            intro j hj
            by_cases e : j = t
            · subst e; rw [ha, hb, Int.toNat_natCast, Int.toNat_natCast, hab]; simp
            · exact hall j (by omega))
          rw [this, ha]
        | false =>
          rw [Bool.not_false, cond_true]
          have : allN (fun t => (decide (t ≤ i)) || adj g ((a : Int)).toNat (X.getD t 0).toNat) X.length = false := by
            rw [Bool.eq_false_iff]
            intro h
            have := allN_iff.1 h t htl
            rw [hb, Int.toNat_natCast, Int.toNat_natCast, hab, decide_eq_false (show ¬ t ≤ i by omega)] at this
            cases this
          rw [this]; rfl
    rw [w64_succ hi (by unfold Sm; omega)]
    by_cases h1 : i + 1 < X.length
    · exact key (X.length - (i + 1)) F (i + 1) (by omega) (by omega) (by omega) (by intro j hj; simp [show j ≤ i by omega])
    · exact key 0 F (i + 1) (by omega) (by omega) (by omega) (by intro j hj; simp [show j ≤ i by omega])
  rw [loop_all (L := fun k i => s_l5Clique_l2 F X g k i) (n := X.length) (p := fun i => allN (fun t => (decide (t ≤ i)) || adj g (X.getD i 0).toNat (X.getD t 0).toNat) X.length) (bad := some false) (fin := some true) ?_ ?_ F (by omega)]
  · have : allN (fun i => allN (fun t => (decide (t ≤ i)) || adj g (X.getD i 0).toNat (X.getD t 0).toNat) X.length) X.length = clq g p := by
      rw [Bool.eq_iff_iff, allN_iff, clq_iff]
      constructor
      · intro h
        have key : ∀ x y, x < g.1.toNat → y < g.1.toNat → p x = true → p y = true → x < y → adj g x y = true := by
          intro x y hx hy h1 h2 hlt
          have hm1 : (x : Int) ∈ X := by rw [← hX]; exact listN_mem.2 ⟨x, rfl, hx, h1⟩
          have hm2 : (y : Int) ∈ X := by rw [← hX]; exact listN_mem.2 ⟨y, rfl, hy, h2⟩
          obtain ⟨i, hi, e1⟩ := List.getElem_of_mem hm1
          obtain ⟨t, ht, e2⟩ := List.getElem_of_mem hm2
          have e3 : X.getD i 0 = (x : Int) := by rw [List.getD_eq_getElem?_getD, List.getElem?_eq_getElem hi, Option.getD_some, e1]
          have e4 : X.getD t 0 = (y : Int) := by rw [List.getD_eq_getElem?_getD, List.getElem?_eq_getElem ht, Option.getD_some, e2]
          have hit : i < t := by
            rcases Nat.lt_trichotomy i t with h3 | h3 | h3
            · exact h3
            · subst h3; rw [e3] at e4; omega
            · have := srt_lt hsrt h3 hi
              rw [e3, e4] at this; omega
          have := allN_iff.1 (h i hi) t ht
          rw [e3, e4, Int.toNat_natCast, Int.toNat_natCast, decide_eq_false (show ¬ t ≤ i by omega), Bool.false_or] at this
          exact this
        intro x y hx hy h1 h2 hne
        rcases Nat.lt_trichotomy x y with h3 | h3 | h3
        · exact key x y hx hy h1 h2 h3
        · exact absurd h3 hne
        · rw [adj_comm]; exact key y x hy hx h2 h1 h3
      · intro h i hi
        rw [allN_iff]
        intro t ht
        by_cases hle2 : t ≤ i
        · simp [hle2]
        · obtain ⟨a, ha, han, hap⟩ := hget i hi
          obtain ⟨b, hb, hbn, hbp⟩ := hget t ht
          have hlt := srt_lt hsrt (show i < t by omega) ht
          rw [ha, hb] at hlt
          rw [ha, hb, Int.toNat_natCast, Int.toNat_natCast, h a b han hbn hap hbp (by omega)]; simp
    rw [this]
    cases clq g p <;> rfl
  · intro k i hi
    simp only [s_l5Clique_l2]
    rw [decide_eq_true (show (i : Int) < X.length by omega), cond_true]
    exact hin k i hi
  · intro k
    simp only [s_l5Clique_l2]
    rw [decide_eq_false (show ¬ (X.length : Int) < X.length by omega), cond_false]

end Go.Zq
/- Plain mathematics: perfect eliminations. -/
namespace Go.Zq

/-- a node whose neighbors in a set are a clique -/
def smp (g : Gr) (R : Nat → Bool) (x : Nat) : Bool := clq g (fun y => adj g x y && R y)
/-- the eliminations of what is left -/
def pfe (g : Gr) : Nat → (Nat → Bool) → List Int → Option (List Int)
  | 0, _, out => some out
  | d + 1, R, out => match fstN (fun x => R x && smp g R x) g.1.toNat with
    | none => none
    | some x => pfe g d (fun j => R j && !(j == x)) (out ++ [(x : Int)])

theorem filt_adj {g : Gr} {x : Nat} {out : List Int} {F : Nat} (hg : good g = true) (hF : 20 ≤ F) (hG : g.2.length < F) (hs : Sm g.2.length) (ho : out.length ≤ 8) : s_l5Among F g out (x : Int) = some (listN (fun y => adj g x y && !bq out y) g.1.toNat) := by
  have h8 := good_size hg
  have hle := listN_le (p := adj g x) (n := g.1.toNat)
  unfold s_l5Among
  rw [nbrs_eq hg hF hG hs, Option.bind_some]
  refine loop_inv (L := fun k t s => s_l5Among_l1 F out (listN (adj g x) g.1.toNat) k s t) (n := (listN (adj g x) g.1.toNat).length) (fun t s => s = ((listN (adj g x) g.1.toNat).take t).filter (fun y => !bq out y.toNat)) ?_ ?_ F [] (by omega) (by simp)
  · rintro k t s ht rfl
    obtain ⟨a, ha, han, hap⟩ := listN_get ht
    refine ⟨_, rfl, ?_⟩
    have hl1 := List.length_filter_le (fun y : Int => !bq out y.toNat) ((listN (adj g x) g.1.toNat).take t)
    have hl3 : ((listN (adj g x) g.1.toNat).take t).length ≤ 8 := by simp; omega
    simp only [s_l5Among_l1, s_l5Among_j1]
    rw [decide_eq_true (show (t : Int) < ((listN (adj g x) g.1.toNat).length : Int) by omega), cond_true, idx_getD (d := 0) ht, Option.bind_some, ha, l1Has_eq (by omega) (by unfold Sm; omega), Option.bind_some, Option.bind_some, w64_succ ht (by unfold Sm; omega), takeS ht ha, List.filter_append]
    show (bif !bq out a then _ else _) = _
    cases hB : bq out a with
    | true => simp [List.filter_cons, hB]
    | false =>
      rw [Bool.not_false, cond_true, appL_one (by omega), Option.bind_some]
      simp [List.filter_cons, hB]
  · rintro k s rfl
    simp only [s_l5Among_l1]
    rw [decide_eq_false (show ¬ ((listN (adj g x) g.1.toNat).length : Int) < ((listN (adj g x) g.1.toNat).length : Int) by omega), cond_false, List.take_length]
    exact congrArg some (filter_listN (A := adj g x) (B := fun j => !bq out j) g.1.toNat)

theorem sPfIn {F : Nat} {g : Gr} {out : List Int} {c1 : List Int → Option (List Int × Bool)} (hg : good g = true) (hF : 20 ≤ F) (hG : g.2.length < F) (hs : Sm g.2.length) (ho : out.length ≤ 8) :
    s_PerfectElimination_l1 F g out c1 F (-1) 0 = match fstN (fun x => !bq out x && smp g (fun j => !bq out j) x) g.1.toNat with
      | none => some ([], false)
      | some x => c1 (out ++ [(x : Int)]) := by
  have h8 := good_size hg
  have key : ∀ d k x, x + d = g.1.toNat → d + 1 < k → (∀ j, j < x → (!bq out j && smp g (fun j => !bq out j) j) = false) → s_PerfectElimination_l1 F g out c1 k (-1) (x : Int) = match fstN (fun x => !bq out x && smp g (fun j => !bq out j) x) g.1.toNat with
      | none => some ([], false)
      | some x => c1 (out ++ [(x : Int)]) := by
    intro d
    induction d with
    | zero =>
      intro k x hx hk hall
      obtain ⟨k, rfl⟩ : ∃ k', k = k' + 1 := ⟨k - 1, by omega⟩
      obtain rfl : x = g.1.toNat := by omega
      have : fstN (fun x => !bq out x && smp g (fun j => !bq out j) x) g.1.toNat = none := fst_none.2 hall
      simp only [s_PerfectElimination_l1, s_PerfectElimination_j3]
      rw [decide_eq_false (show ¬ (g.1.toNat : Int) < g.1 by omega), this]
      rfl
    | succ d ih =>
      intro k x hx hk hall
      obtain ⟨k, rfl⟩ : ∃ k', k = k' + 2 := ⟨k - 2, by omega⟩
      have hw : w64 ((x : Int) + 1) = ((x + 1 : Nat) : Int) := w64_succ (n := g.1.toNat) (by omega) (by unfold Sm; omega)
      rw [s_PerfectElimination_l1]
      rw [decide_eq_true (show (x : Int) < g.1 by omega), cond_true, show decide ((-1 : Int) < 0) = true from rfl]
      simp only [s_PerfectElimination_j3, cond_true]
      rw [l1Has_eq (by omega) (by unfold Sm; omega), Option.bind_some, filt_adj hg hF hG hs ho, Option.bind_some, sClique_eq hg hF hG hs, Option.bind_some]
      have e1 : decide ((x : Int) ∈ out) = bq out x := rfl
      rw [e1]
      have e2 : clq g (fun y => adj g x y && !bq out y) = smp g (fun j => !bq out j) x := rfl
      rw [e2]
      cases hQ : (!bq out x && smp g (fun j => !bq out j) x) with
      | false =>
        have hih := ih (k + 1) (x + 1) (by omega) (by omega) (by
          intro j hj
          by_cases e : j = x
          · subst e; exact hQ
          · exact hall j (by omega))
        have : ∀ b : Bool, b = false → s_PerfectElimination_j2 F g out (-1) (x : Int) c1 (s_PerfectElimination_l1 F g out c1 (k + 1)) b = s_PerfectElimination_l1 F g out c1 (k + 1) (-1) ((x + 1 : Nat) : Int) := by
          rintro b rfl
          simp only [s_PerfectElimination_j2, s_PerfectElimination_j1, cond_false, hw]
        cases hb : bq out x with
        | true => rw [Bool.not_true, cond_false, this _ rfl, hih]
        | false =>
          rw [hb, Bool.not_false, Bool.true_and] at hQ
          rw [Bool.not_false, cond_true, this _ hQ, hih]
      | true =>
        have hf : fstN (fun x => !bq out x && smp g (fun j => !bq out j) x) g.1.toNat = some x := fst_eq (by omega) hQ hall
        rw [hf]
        simp only [Bool.and_eq_true, Bool.not_eq_true'] at hQ
        rw [hQ.1, Bool.not_false, cond_true, hQ.2]
        simp only [s_PerfectElimination_j2, s_PerfectElimination_j1, cond_true, hw]
        rw [s_PerfectElimination_l1]
        rw [decide_eq_false (show ¬ (x : Int) < 0 by omega)]
        simp only [s_PerfectElimination_j3, cond_false]
        rw [decide_eq_false (show ¬ (x : Int) < 0 by omega), cond_false, appL_one (by omega), Option.bind_some]
        cases decide (((x + 1 : Nat) : Int) < g.1) <;> rfl
  exact key g.1.toNat F 0 (by omega) (by omega) (by intro j hj; omega)

theorem bq_append {out : List Int} {x j : Nat} : bq (out ++ [(x : Int)]) j = (bq out j || j == x) := by
  unfold bq
  rw [Bool.eq_iff_iff]
  simp only [decide_eq_true_eq, List.mem_append, List.mem_singleton, Bool.or_eq_true, beq_iff_eq]
  constructor
  · rintro (h | h)
    · exact .inl h
    · exact .inr (by omega)
  · rintro (h | h)
    · exact .inl h
    · exact .inr (by omega)

theorem pfe_congr {g : Gr} : ∀ (d : Nat) {R Q : Nat → Bool} {out : List Int}, (∀ j, R j = Q j) → pfe g d R out = pfe g d Q out
  | 0, _, _, _, _ => rfl
  | d + 1, R, Q, out, h => by have : R = Q := funext h; rw [this]

theorem sPf_eq {F : Nat} {g : Gr} (hg : good g = true) (hF : 20 ≤ F) (hG : g.2.length < F) (hs : Sm g.2.length) : ∀ (d k : Nat) (out : List Int), out.length + d = g.1.toNat → d < k →
    s_PerfectElimination_l2 F g k out = match pfe g d (fun j => !bq out j) out with
      | none => some ([], false)
      | some r => some (r, true)
  | 0, k, out, hd, hk => by
    have h8 := good_size hg
    obtain ⟨k, rfl⟩ : ∃ k', k = k' + 1 := ⟨k - 1, by omega⟩
    simp only [s_PerfectElimination_l2, pfe]
    rw [decide_eq_false (show ¬ (out.length : Int) < g.1 by omega), cond_false]
  | d + 1, k, out, hd, hk => by
    have h8 := good_size hg
    obtain ⟨k, rfl⟩ : ∃ k', k = k' + 1 := ⟨k - 1, by omega⟩
    simp only [s_PerfectElimination_l2, pfe]
    rw [decide_eq_true (show (out.length : Int) < g.1 by omega), cond_true, sPfIn hg hF hG hs (by omega)]
    cases hf : fstN (fun x => !bq out x && smp g (fun j => !bq out j) x) g.1.toNat with
    | none => rfl
    | some x =>
      simp only
      rw [sPf_eq hg hF hG hs d k (out ++ [(x : Int)]) (by simp; omega) (by omega)]
      rw [pfe_congr d (Q := fun j => !bq out j && !(j == x)) (fun j => by rw [bq_append]; simp)]

theorem fst_len {p : Nat → Bool} {n i : Nat} (h : fstN p n = some i) : i < n := (fst_some h).1

theorem iPf_eq {F : Nat} {g : Gr} (hg : good g = true) (hF : 20 ≤ F) : ∀ (d k : Nat) (R : Nat → Bool) (o : NL Int), cntN R g.1.toNat = d → d < k → o.list.length + d ≤ 8 →
    ∃ o', i_PerfectElimination_o_l1 F ⟨nearL g⟩ k o ((mkm R g.1.toNat : Nat) : Int) = (match pfe g d R o.list with
      | none => some (.nil, false)
      | some r => some (o', true)) ∧ ∀ r, pfe g d R o.list = some r → o'.list = r
  | 0, k, R, o, hd, hk, ho => by
    obtain ⟨k, rfl⟩ : ∃ k', k = k' + 1 := ⟨k - 1, by omega⟩
    have h0 := cnt_zero.1 hd
    refine ⟨o, ?_, ?_⟩
    · simp only [i_PerfectElimination_o_l1, pfe]
      rw [mkm_zero.2 h0]; rfl
    · intro r hr; simpa [pfe] using hr
  | d + 1, k, R, o, hd, hk, ho => by
    have h8 := good_size hg
    obtain ⟨k, rfl⟩ : ∃ k', k = k' + 1 := ⟨k - 1, by omega⟩
    have hle := listN_le (p := R) (n := g.1.toNat)
    have hnz : anyN R g.1.toNat = true := by
      cases h : anyN R g.1.toNat with
      | true => rfl
      | false =>
        have : fstN R g.1.toNat = none := fst_none.2 fun j hj => by
          cases hR : R j with
          | false => rfl
          | true => rw [anyN_iff.2 ⟨j, hj, hR⟩] at h; cases h
        have := cnt_zero.2 this
        omega
    obtain ⟨q, h5, h6, h7⟩ := loop_first (L := fun k i => slices_IndexFunc_of_i_PerfectElimination_1_l1 F (listN R g.1.toNat) ⟨(), ⟨⟨nearL g⟩⟩, ⟨((mkm R g.1.toNat : Nat) : Int)⟩, ()⟩ k i) (n := (listN R g.1.toNat).length) (p := fun i => smp g R ((listN R g.1.toNat).getD i 0).toNat) (by
      intro k i hi
      obtain ⟨a, ha, han, hap⟩ := listN_get hi
      simp only [slices_IndexFunc_of_i_PerfectElimination_1_l1, i_PerfectElimination_1]
      rw [decide_eq_true (show (i : Int) < ((listN R g.1.toNat).length : Int) by omega), cond_true, idx_getD (d := 0) hi, Option.bind_some, ha, idx_getD (d := 0) (by rw [nearL_len]; omega), Option.bind_some, nearL_get han, and_mkm (by omega), iClique_eq hg hF, Option.bind_some, Option.bind_some, w64_succ hi (by unfold Sm; omega), Int.toNat_natCast]
      rfl) (by
      intro k
      simp only [slices_IndexFunc_of_i_PerfectElimination_1_l1]
      rw [decide_eq_false (show ¬ ((listN R g.1.toNat).length : Int) < ((listN R g.1.toNat).length : Int) by omega), cond_false]) F (by omega)
    have hfl := first_listN (p := R) (q := smp g R) (n := g.1.toNat)
    simp only [i_PerfectElimination_o_l1]
    rw [mkm_nz, hnz, cond_true, setOf_eq (by omega) hF, Option.bind_some]
    unfold slices_IndexFunc_of_i_PerfectElimination_1
    rw [h5, Option.bind_some]
    cases hf : fstN (fun i => smp g R ((listN R g.1.toNat).getD i 0).toNat) (listN R g.1.toNat).length with
    | none =>
      rw [hf, Option.map_none] at hfl
      have : anyN (fun i => smp g R ((listN R g.1.toNat).getD i 0).toNat) (listN R g.1.toNat).length = false := by
        rw [Bool.eq_false_iff]; intro h
        obtain ⟨i, hi, h1⟩ := anyN_iff.1 h
        rw [fst_none.1 hf i hi] at h1; cases h1
      rw [this] at h6
      have hq : q < 0 := by
        have := of_decide_eq_false h6
        omega
      rw [decide_eq_true hq, cond_true]
      refine ⟨.nil, ?_, ?_⟩
      · simp only [pfe, hfl]
      · intro r hr; simp only [pfe, hfl] at hr; cases hr
    | some i =>
      rw [hf, Option.map_some] at hfl
      have hq := h7 i hf
      have hi := fst_len hf
      obtain ⟨a, ha, han, hap⟩ := listN_get hi
      rw [ha, Int.toNat_natCast] at hfl
      subst hq
      rw [decide_eq_false (show ¬ (i : Int) < 0 by omega), cond_false, Option.bind_some, idx_getD (d := 0) hi, Option.bind_some, ha, appL_one (by omega), Option.bind_some, one_shl (by omega), Option.bind_some, mkm_drop (by omega) han]
      have hc : cntN (fun j => R j && !(j == a)) g.1.toNat = d := by
        have hsp := cnt_split (p := R) (q := fun j => j == a) g.1.toNat
        have h1 : cntN (fun j => (j == a) && R j) g.1.toNat = 1 := by
          rw [cnt_sum]
          have e : sumN (fun j => if ((j == a) && R j) = true then 1 else 0) g.1.toNat = sumN (fun y => if y = a then (1 : Nat) else 0) g.1.toNat := by
            apply sum_congr; intro y _
            by_cases hy : y = a
            · subst hy; simp [hap]
            · simp [hy]
          rw [e, sum_delta (f := fun _ => 1) han]
        omega
      obtain ⟨o', h8', h9⟩ := iPf_eq hg hF d k (fun j => R j && !(j == a)) (.of (o.list ++ [(a : Int)])) hc (by omega) (by show (o.list ++ [(a : Int)]).length + d ≤ 8; rw [List.length_append, List.length_singleton]; omega)
      have e0 : (NL.of (o.list ++ [(a : Int)])).list = o.list ++ [(a : Int)] := rfl
      rw [e0] at h8' h9
      refine ⟨o', ?_, ?_⟩
      · rw [h8']; simp only [pfe, hfl]
      · intro r hr; simp only [pfe, hfl] at hr; exact h9 r hr

theorem pfe_len {g : Gr} : ∀ (d : Nat) (R : Nat → Bool) (out r : List Int), pfe g d R out = some r → r.length = out.length + d
  | 0, R, out, r, h => by simp [pfe] at h; subst h; rfl
  | d + 1, R, out, r, h => by
    simp only [pfe] at h
    split at h
    · cases h
    · have := pfe_len d _ _ r h
      simp at this; omega

theorem cntT {n : Nat} : cntN (fun _ => true) n = n := by
  rw [cnt_sum]
  induction n with
  | zero => rfl
  | succ n ih => simp only [sumN, if_true] at ih ⊢; omega

theorem mkm_full {n : Nat} : mkm (fun _ => true) n = 2 ^ n - 1 := by
  induction n with
  | zero => rfl
  | succ n ih =>
    have := mkm_add (p := fun _ => true) (n := n)
    rw [this, ih]
    have := Nat.two_pow_pos n
    simp only [if_true, Nat.pow_succ]; omega

theorem iAll_eq {F : Nat} {g : Gr} (hg : good g = true) : i_net_all F ⟨nearL g⟩ = some ((mkm (fun _ => true) g.1.toNat : Nat) : Int) := by
  have h8 := good_size hg
  have hpow := Nat.two_pow_pos g.1.toNat
  have h256 : 2 ^ g.1.toNat ≤ 256 := by
    have := Nat.pow_le_pow_right (n := 2) (by decide) (show g.1.toNat ≤ 8 by omega)
    simpa using this
  unfold i_net_all
  rw [nearL_len, one_shl (by omega), Option.bind_some, w64_id (by omega) (by omega), mkm_full]
  congr 1; omega

theorem exPerfectElimination {F : Nat} {g : Gr} (h9 : 20 ≤ F) (hG : g.2.length < F) (hs : Sm g.2.length) :
    ∃ R b o, s_PerfectElimination F g = some (R, b) ∧ i_PerfectElimination_o F g = some (o, b) ∧ o.list = R ∧ R.length ≤ 8 := by
  unfold s_PerfectElimination i_PerfectElimination_o
  rw [l2Good_eq hG hs, isGraph_eq hG (by omega) hs, Option.bind_some, Option.bind_some]
  cases h : good g with
  | false => exact ⟨[], false, .nil, rfl, rfl, rfl, by simp⟩
  | true =>
    have h8 := good_size h
    have hS := sPf_eq h h9 hG hs g.1.toNat F [] (by simp) (by omega)
    have hct : cntN (fun _ => true) g.1.toNat = g.1.toNat := cntT
    obtain ⟨o', hI, hI2⟩ := iPf_eq h h9 g.1.toNat F (fun _ => true) .nil hct (by omega) (by show 0 + g.1.toNat ≤ 8; omega)
    have e0 : pfe g g.1.toNat (fun j => !bq [] j) [] = pfe g g.1.toNat (fun _ => true) (NL.nil : NL Int).list := pfe_congr _ fun j => by simp [bq]
    rw [e0] at hS
    have hall : i_net_all F ⟨nearL g⟩ = some ((mkm (fun _ => true) g.1.toNat : Nat) : Int) := iAll_eq h
    simp only [Bool.not_true, cond_false]
    rw [netOf_eq h hG hs, Option.bind_some, hall, Option.bind_some]
    cases hp : pfe g g.1.toNat (fun _ => true) (NL.nil : NL Int).list with
    | none =>
      rw [hp] at hS hI
      exact ⟨[], false, .nil, hS, hI, rfl, by simp⟩
    | some r =>
      rw [hp] at hS hI
      have := pfe_len _ _ _ _ hp
      exact ⟨r, true, o', hS, hI, hI2 r hp, by rw [this]; show 0 + g.1.toNat ≤ 8; omega⟩

end Go.Zq
/- The law PerfectElimination, as a plain statement. -/
namespace Go.Zq

theorem lawPerfectElimination {F : Nat} {g : Gr} (hF : 2097152 ≤ F) (hg : g.2.length ≤ 9223372036854775807) : w_FnExactPerfectElimination F g = some true := by
  unfold w_FnExactPerfectElimination
  rw [szGraph_eq (by omega) (by omega) hg, Option.bind_some]
  by_cases h2 : (1048576 : Int) - g.2.length < 0
  · simp [h2]
  simp only [h2, if_false, decide_false, cond_false]
  obtain ⟨R, b, o, hs, hi, ho, hl⟩ := exPerfectElimination (F := F) (g := g) (by omega) (by omega) (by unfold Sm; omega)
  have e1 : w_toGraph F g = some g := toGraph_eq (by omega) (by omega) (by omega)
  have e2 : w_toGraph_o F g = some (g.1, .of g.2) := toGraph_o_eq (by omega) (by omega) (by omega)
  have e5 : w_eqIntS F o.list R = some true := by rw [ho]; exact eqIntS_eq (by omega) (by unfold Sm; omega)
  have e6 : w_eqGraph F (g.1, (NL.of g.2).list) g = some true := eqGraph_eq (g := g) (by omega) (by unfold Sm; omega) (by omega)
  have e8 : w_markGraph F ⟨g.1, .of g.2⟩ 1 = some (1 + 2 * (g.2.length : Int)) := markGraph_eq (by omega) (by omega) (by omega) (by omega) (by omega)
  have e9 : decide ((1 + 2 * (g.2.length : Int)) < 0) = false := decide_eq_false (by omega)
  obtain ⟨o2, m2, m3, m4⟩ := markIntS_eq (F := F) (o := o) (k := 1) (by rw [ho]; omega) (by rw [ho]; omega) (by omega) (by omega)
  have e10 : w_heldIntS F o2.list 1 = some (1 + (o.list.length : Int)) := by rw [m4]; exact heldIntS_eq (by rw [ho]; omega) (by rw [ho]; omega) (by omega) (by omega)
  have e11 : decide ((1 + (o.list.length : Int)) < 0) = false := decide_eq_false (by omega)
  have hi1 : i_PerfectElimination_o F (g.1, (NL.of g.2).list) = some (o, b) := hi
  simp only [w_FnExactPerfectElimination_j1, w_FnExactPerfectElimination_j2, w_FnExactPerfectElimination_j3, e1, e2, e5, e6, e8, e9, e10, e11, hs, hi, hi1, m2, m3, Option.bind_some, Bool.not_true, cond_false, bne_self_eq_false]

end Go.Zq
