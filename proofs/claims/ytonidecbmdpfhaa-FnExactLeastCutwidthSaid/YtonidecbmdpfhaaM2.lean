/- Plain mathematics: what the functions answer (part 2). Conditions: stated in each theorem. -/
import Derived.Test.YtonidecbmdpfhaaM1
set_option linter.unusedVariables false
set_option linter.unusedSimpArgs false
/- Plain mathematics: treedepths of all sets. -/
namespace Go.Zq

end Go.Zq
/- Plain mathematics: steps of a search. -/
namespace Go.Zq

end Go.Zq
/- Plain mathematics: steps of a search, in the reference; programs. -/
namespace Go.Zq

theorem cnt_zero {p : Nat → Bool} {n : Nat} : cntN p n = 0 ↔ fstN p n = none := by
  rw [fst_none]
  constructor
  · intro h j hj
    cases hp : p j with
    | false => rfl
    | true =>
      have := cnt_lt (p := fun _ => false) (q := p) (n := n) (by simp) ⟨j, hj, rfl, hp⟩
      omega
  · intro h
    rw [cnt_congr (q := fun _ => false) h]
    unfold cntN
    rw [List.countP_eq_zero]; simp

end Go.Zq
/- Plain mathematics: cops that stay, and treedepth. -/
namespace Go.Zq

end Go.Zq
/- Plain mathematics: parts, and what is connected. -/
namespace Go.Zq

end Go.Zq
/- Plain mathematics: path decompositions. -/
namespace Go.Zq

structure Bg (F : Nat) (bags : List (List Int)) : Prop where
  len : bags.length ≤ 1048576
  each : ∀ x ∈ bags, x.length ≤ 1048576
  fuel : 1048577 ≤ F

theorem Bg.at {F : Nat} {bags : List (List Int)} (h : Bg F bags) {i : Nat} (hi : i < bags.length) : (bags.getD i []).length ≤ 1048576 := h.each _ (getD_mem hi)

theorem Bg.of {F : Nat} {bags : List (List Int)} (h : bags.length + sumL bags bags.length ≤ 1048576) (hF : 1048577 ≤ F) : Bg F bags := by
  refine ⟨by omega, fun x hx => ?_, hF⟩
  obtain ⟨i, hi, e⟩ := List.mem_iff_getElem.1 hx
  have := sumL_le hi
  rw [List.getD_eq_getElem?_getD, List.getElem?_eq_getElem hi, Option.getD_some, e] at this
  omega
end Go.Zq
/- Plain mathematics: sets of nodes as lists and as numbers; brambles. -/
namespace Go.Zq

end Go.Zq
/- Plain mathematics: own copies of arguments; lists that are marked. -/
namespace Go.Zq

theorem toIntA2S_o_eq {F : Nat} {xs : List (Int × Int)} (hF : xs.length < F) (hl : xs.length ≤ 1099511627776) (h3 : 3 ≤ F) : w_toIntA2S_o F xs = some (.of xs) := by
  unfold w_toIntA2S_o
  rw [mkN_nat hl, Option.bind_some]
  refine loop_inv (L := fun k i s => w_toIntA2S_o_l1 F xs k s i) (n := xs.length) (fun i ys => ys.length = xs.length ∧ ys.take i = xs.take i) ?_ ?_ F _ hF (by simp)
  · intro k i s hi hI
    refine ⟨_, copied hI hi, ?_⟩
    simp only [w_toIntA2S_o_l1]
    rw [idx_nat hi, idx_nat (by omega), w64_succ hi (by unfold Sm; omega)]
    simp [hi, toIntA2_eq h3]
  · intro k s hI
    simp only [w_toIntA2S_o_l1]
    rw [copied_end hI]; simp

theorem toGraph_o_eq {F : Nat} {g : Int × List (Int × Int)} (hF : g.2.length < F) (hl : g.2.length ≤ 1099511627776) (h3 : 3 ≤ F) : w_toGraph_o F g = some (g.1, .of g.2) := by
  unfold w_toGraph_o
  rw [toIntA2S_o_eq hF hl h3]; rfl

/-- what a marked list is -/
def mkd (n : Nat) (k : Int) : List Int := (List.range n).map fun (i : Nat) => k + (i : Int)
theorem mkd_length {n : Nat} {k : Int} : (mkd n k).length = n := by simp [mkd]
theorem mkd_get {n i : Nat} {k : Int} (h : i < n) : idx (mkd n k) (i : Int) = some (k + i) := by
  rw [idx_nat (by rw [mkd_length]; exact h)]
  simp [mkd]

theorem markIntS_eq {F : Nat} {o : NL Int} {k : Int} (hF : o.list.length < F) (hl : o.list.length ≤ 1099511627776) (h0 : 0 ≤ k) (hk : k ≤ 4611686018427387904) :
    ∃ o', w_markIntS F ⟨o⟩ k = some (k + o.list.length, o') ∧ remark o o' = some o' ∧ o'.list = mkd o.list.length k := by
  cases o with
  | nil =>
    obtain ⟨j, rfl⟩ : ∃ j, F = j + 1 := ⟨F - 1, by omega⟩
    exact ⟨.nil, by simp [w_markIntS, w_markIntS_l1, NL.list], rfl, by simp [NL.list, mkd]⟩
  | of xs =>
    simp only [NL.list] at hF hl ⊢
    obtain ⟨s, ⟨ys, h1, h2, h3, h4⟩, h5⟩ := loop_ex (L := fun j i (s : NL Int × Int) => w_markIntS_l1 F j s.1 s.2 i) (n := xs.length) (fin := fun s => some (s.2, s.1))
      (fun i s => ∃ ys : List Int, s.1 = .of ys ∧ ys.length = xs.length ∧ s.2 = k + i ∧ ∀ j, j < i → ys[j]? = some (k + (j : Int)))
      (by
        rintro j i ⟨a, b⟩ hi ⟨ys, rfl, h2, rfl, h4⟩
        refine ⟨(.of (ys.set i (k + i)), k + ((i + 1 : Nat) : Int)), ⟨_, rfl, by simp [h2], rfl, ?_⟩, ?_⟩
        · intro m hm
          rw [List.getElem?_set]
          by_cases e : i = m
          · subst e; simp [h2, hi]
          · simp only [e, if_false]; exact h4 m (by omega)
        · simp only [w_markIntS_l1, NL.list]
          have : decide ((i : Int) < (ys.length : Int)) = true := by simp; omega
          change (bif decide ((i : Int) < (ys.length : Int)) then _ else _) = _
          rw [this, cond_true, idx_nat (by omega), Option.bind_some, w64_succ hi (by unfold Sm; omega), w64_id (x := k + i + 1) (by omega) (by omega)]
          simp only [NL.set, Int.toNat_natCast]
          congr 1
          omega)
      (by
        rintro j ⟨a, b⟩ ⟨ys, rfl, h2, rfl, h4⟩
        simp only [w_markIntS_l1, NL.list, h2]
        simp) F (.of xs, k) hF ⟨xs, rfl, rfl, by simp, by simp⟩
    obtain ⟨a, b⟩ := s
    simp only at h1 h3 h5
    subst h1; subst h3
    refine ⟨.of ys, ?_, by simp [remark, h2], ?_⟩
    · unfold w_markIntS; exact h5
    · simp only [NL.list]
      apply List.ext_getElem?
      intro i
      by_cases hi : i < xs.length
      · rw [h4 i hi]; simp [mkd, hi]
      · rw [List.getElem?_eq_none (by omega), List.getElem?_eq_none (by rw [mkd_length]; omega)]

theorem heldIntS_eq {F n : Nat} {k : Int} (hF : n < F) (hl : n ≤ 1099511627776) (h0 : 0 ≤ k) (hk : k ≤ 4611686018427387904) : w_heldIntS F (mkd n k) k = some (k + n) := by
  unfold w_heldIntS
  refine loop_inv (L := fun j i s => w_heldIntS_l1 F (mkd n k) j s i) (n := n) (fun i s => s = k + (i : Int)) ?_ ?_ F _ hF (by simp)
  · rintro j i s hi rfl
    refine ⟨_, rfl, ?_⟩
    simp only [w_heldIntS_l1, mkd_length]
    have : decide ((i : Int) < (n : Int)) = true := by simpa using hi
    rw [this, cond_true, mkd_get hi, Option.bind_some, w64_succ hi (by unfold Sm; omega), w64_id (x := k + i + 1) (by omega) (by omega)]
    simp only [bne_self_eq_false, cond_false]
    congr 1
    omega
  · rintro j s rfl
    simp only [w_heldIntS_l1, mkd_length]
    simp

theorem set2_length {α : Type} {xs : List (α × α)} {i : Nat} {j : Int} {b : α} : (set2 xs i j b).length = xs.length := by
  unfold set2
  split <;> simp

theorem markGraph_eq {F : Nat} {a : Int} {xs : List (Int × Int)} {k : Int} (hF : xs.length < F) (h3 : 3 ≤ F) (hl : xs.length ≤ 1099511627776) (h0 : 0 ≤ k) (hk : k ≤ 4611686018427387904) :
    w_markGraph F ⟨a, .of xs⟩ k = some (k + 2 * xs.length) := by
  obtain ⟨s, ⟨ys, h1, h2, h4⟩, h5⟩ := loop_ex (L := fun j i (s : NL (Int × Int) × Int) => w_markIntA2S_l2 F j s.1 s.2 i) (n := xs.length) (fin := fun s => some (s.2, s.1))
      (fun i s => ∃ ys : List (Int × Int), s.1 = .of ys ∧ ys.length = xs.length ∧ s.2 = k + 2 * (i : Int))
      (by
        rintro j i ⟨a, b⟩ hi ⟨ys, rfl, h2, rfl⟩
        refine ⟨(.of (set2 (set2 ys i 0 (k + 2 * i)) i 1 (k + 2 * i + 1)), k + 2 * ((i + 1 : Nat) : Int)), ⟨_, rfl, by simp [set2_length, h2], rfl⟩, ?_⟩
        simp only [w_markIntA2S_l2, NL.list]
        have : decide ((i : Int) < (ys.length : Int)) = true := by simp; omega
        change (bif decide ((i : Int) < (ys.length : Int)) then _ else _) = _
        rw [this, cond_true]
        obtain ⟨f, rfl⟩ : ∃ f, F = f + 3 := ⟨F - 3, by omega⟩
        rw [w_markIntA2S_l1]
        simp only [NL.list]
        rw [idx_nat (by omega)]
        rw [show (decide ((0 : Int) < 2)) = true from rfl, cond_true, Option.bind_some]
        rw [show idx [(ys[i]'(by omega)).1, (ys[i]'(by omega)).2] 0 = some (ys[i]'(by omega)).1 from rfl, Option.bind_some]
        rw [show w64 (0 + 1) = 1 from by decide, w64_id (x := k + 2 * i + 1) (by omega) (by omega)]
        simp only [NL.set2, Int.toNat_natCast]
        rw [w_markIntA2S_l1]
        simp only [NL.list]
        rw [idx_nat (by rw [set2_length]; omega)]
        rw [show (decide ((1 : Int) < 2)) = true from rfl, cond_true, Option.bind_some]
        rw [show ∀ u v : Int, idx [u, v] 1 = some v from fun _ _ => rfl, Option.bind_some]
        rw [show w64 (1 + 1) = 2 from by decide, w64_id (x := k + 2 * i + 1 + 1) (by omega) (by omega)]
        simp only [NL.set2, Int.toNat_natCast]
        rw [w_markIntA2S_l1]
        rw [show (decide ((2 : Int) < 2)) = false from rfl, cond_false, w64_succ hi (by unfold Sm; omega)]
        congr 1
        omega)
      (by
        rintro j ⟨a, b⟩ ⟨ys, rfl, h2, rfl⟩
        simp only [w_markIntA2S_l2, NL.list, h2]
        simp) F (.of xs, k) hF ⟨xs, rfl, rfl, by simp⟩
  obtain ⟨u, b⟩ := s
  simp only at h1 h4 h5
  subst h1; subst h4
  unfold w_markGraph w_markIntA2S
  rw [h5]; rfl

end Go.Zq
/- Plain mathematics: fronts, as lists of one's own. -/
namespace Go.Zq

end Go.Zq
/- Plain mathematics: the cutwidth of a layout. -/
namespace Go.Zq

theorem sCut_eq {F : Nat} {g : Gr} {l : List Int} {i : Nat} (hg : good g = true) (hF : l.length < F) (hG : g.2.length < F) (hl : Sm l.length) (hs : Sm g.2.length) (hi : i ≤ l.length) : s_l7Cut F g (l.take i) = some ((crossN g (preP l i) : Nat) : Int) := by
  unfold s_l7Cut
  have hlen : (l.take i).length = i := by simp; omega
  unfold Sm at hs
  refine loop_inv (L := fun k t s => s_l7Cut_l1 F (l.take i) g k s t) (n := g.2.length) (fun t s => s = ((cntN (fun t => preP l i (g.2.getD t (0, 0)).1.toNat != preP l i (g.2.getD t (0, 0)).2.toNat) t : Nat) : Int)) ?_ ?_ F _ hG rfl
  · intro k t s ht hI
    subst hI
    refine ⟨_, rfl, ?_⟩
    obtain ⟨e1, e2, e3⟩ := good_edge hg ht
    simp only [s_l7Cut_l1, s_l7Cut_j1]
    have hlt : decide ((t : Int) < g.2.length) = true := decide_eq_true (by omega)
    rw [hlt, cond_true, idx_getD (d := (0, 0)) ht, w64_succ ht hs, Option.bind_some, l1Has_eq (by omega) (by unfold Sm at *; omega), Option.bind_some, Option.bind_some, l1Has_eq (by omega) (by unfold Sm at *; omega), Option.bind_some]
    have hp : ∀ x : Int, 0 ≤ x → decide (x ∈ l.take i) = preP l i x.toNat := by
      intro x hx; unfold preP; rw [Int.toNat_of_nonneg hx]
    rw [hp _ e1, hp _ (by omega)]
    have hc : cntN (fun t => preP l i (g.2.getD t (0, 0)).1.toNat != preP l i (g.2.getD t (0, 0)).2.toNat) (t + 1) = cntN (fun t => preP l i (g.2.getD t (0, 0)).1.toNat != preP l i (g.2.getD t (0, 0)).2.toNat) t + (if (preP l i (g.2.getD t (0, 0)).1.toNat != preP l i (g.2.getD t (0, 0)).2.toNat) = true then 1 else 0) := by
      rw [cnt_sum, cnt_sum]; rfl
    rw [hc]
    have hle := cnt_le (p := fun t => preP l i (g.2.getD t (0, 0)).1.toNat != preP l i (g.2.getD t (0, 0)).2.toNat) (n := t)
    cases (preP l i (g.2.getD t (0, 0)).1.toNat != preP l i (g.2.getD t (0, 0)).2.toNat) with
    | true =>
      rw [cond_true, w64_id (by omega) (by omega)]
      rfl
    | false => rw [cond_false]; rfl
  · intro k s hI
    subst hI
    simp only [s_l7Cut_l1]
    have hlt : decide ((g.2.length : Int) < g.2.length) = false := decide_eq_false (by omega)
    rw [hlt, cond_false]; rfl

end Go.Zq
/- Plain mathematics: the sizes of the fronts of a layout. -/
namespace Go.Zq

end Go.Zq
/- Plain mathematics: the program of a layout. -/
namespace Go.Zq

end Go.Zq
/- Plain mathematics: neighbors as lists. -/
namespace Go.Zq

end Go.Zq
/- Plain mathematics: sets that stop a fire. -/
namespace Go.Zq

theorem cnt_split {p q : Nat → Bool} : ∀ n, cntN p n = cntN (fun j => q j && p j) n + cntN (fun j => p j && !q j) n := by
  intro n
  rw [cnt_sum, cnt_sum, cnt_sum, ← sum_add]
  refine sum_congr fun i _ => ?_
  cases p i <;> cases q i <;> rfl

end Go.Zq
/- Plain mathematics: rankings. -/
namespace Go.Zq

/-- nodes with at most a number; nodes with just this number -/
def lowP (l : List Int) (r : Int) (j : Nat) : Bool := decide (l.getD j 0 ≤ r)
/-- a node of the same number is met -/
def meets (g : Gr) (l : List Int) (x : Nat) : Bool := anyN (fun y => comp g (lowP l (l.getD x 0)) x y && ((y != x) && (l.getD y 0 == l.getD x 0))) g.1.toNat

end Go.Zq
/- Plain mathematics: cliques; perfect eliminations. -/
namespace Go.Zq

theorem fst_eq {P : Nat → Bool} {n a : Nat} (ha : a < n) (h : P a = true) (hm : ∀ j, j < a → P j = false) : fstN P n = some a := by
  cases hf : fstN P n with
  | none => rw [fst_none.1 hf a ha] at h; cases h
  | some b =>
    obtain ⟨hb, hPb, hmb⟩ := fst_some hf
    congr 1
    rcases Nat.lt_trichotomy a b with h1 | h1 | h1
    · rw [hmb a h1] at h; cases h
    · exact h1.symm
    · rw [hm b h1] at hPb; cases hPb

theorem first_listN {p q : Nat → Bool} {n : Nat} : fstN (fun j => p j && q j) n = (fstN (fun i => q ((listN p n).getD i 0).toNat) (listN p n).length).map fun i => ((listN p n).getD i 0).toNat := by
  cases hf : fstN (fun i => q ((listN p n).getD i 0).toNat) (listN p n).length with
  | none =>
    rw [Option.map_none, fst_none]
    intro j hj
    cases hp : p j with
    | false => rfl
    | true =>
      have hm : (j : Int) ∈ listN p n := listN_mem.2 ⟨j, rfl, hj, hp⟩
      obtain ⟨i, hi, e⟩ := List.getElem_of_mem hm
      have := fst_none.1 hf i hi
      rw [List.getD_eq_getElem?_getD, List.getElem?_eq_getElem hi, Option.getD_some, e, Int.toNat_natCast] at this
      rw [this]; rfl
  | some i =>
    obtain ⟨hi, hq, hm⟩ := fst_some hf
    obtain ⟨a, ha, han, hap⟩ := listN_get hi
    rw [Option.map_some, ha, Int.toNat_natCast]
    rw [ha, Int.toNat_natCast] at hq
    refine fst_eq han (by rw [hap, hq]; rfl) ?_
    intro j hj
    cases hp : p j with
    | false => rfl
    | true =>
      have hm2 : (j : Int) ∈ listN p n := listN_mem.2 ⟨j, rfl, by omega, hp⟩
      obtain ⟨t, ht, e⟩ := List.getElem_of_mem hm2
      have e2 : (listN p n).getD t 0 = (j : Int) := by rw [List.getD_eq_getElem?_getD, List.getElem?_eq_getElem ht, Option.getD_some, e]
      have hlt : t < i := by
        rcases Nat.lt_trichotomy t i with h1 | h1 | h1
        · exact h1
        · subst h1; rw [ha] at e2; omega
        · have := srt_lt listN_srt h1 ht
          rw [ha, e2] at this; omega
      have := hm t hlt
      rw [e2, Int.toNat_natCast] at this
      rw [this]; rfl

end Go.Zq
/- Plain mathematics: the cost of a cut over sets, greedy orders. -/
namespace Go.Zq

/-- the cut of a set -/
def cutM (g : Gr) (m : Nat) : Int := ((crossN g m.testBit : Nat) : Int)
def cutP (g : Gr) (m x : Nat) : Int := cutM g (m ||| 2 ^ x)
theorem cutM_nonneg {g : Gr} {m : Nat} : 0 ≤ cutM g m := by unfold cutM; omega

theorem orbit {m x : Nat} : (fun j => m.testBit j || j == x) = (m ||| 2 ^ x).testBit := by
  funext j
  rw [Nat.testBit_or, Nat.testBit_two_pow]
  by_cases e : x = j
  · subst e; simp
  · have h1 : decide (x = j) = false := by simpa using e
    have h2 : (j == x) = false := by simp; omega
    rw [h1, h2]

theorem cutP_eq {F : Nat} {g : Gr} {m x : Nat} (hg : good g = true) (hF : 20 ≤ F) (hm : m < 2 ^ g.1.toNat) (hx : x < g.1.toNat) : i_net_cut F ⟨nearL g⟩ (m : Int) (x : Int) = some (cutP g m x) := by
  have h := cut_eq (F := F) (S := m.testBit) hg hx hF
  rw [mkm_self hm, out_cross hg, orbit] at h
  exact h

theorem listN_in {n m j : Nat} (hm : m < 2 ^ n) : decide ((j : Int) ∈ listN m.testBit n) = m.testBit j := by
  by_cases hj : j < n
  · cases hb : m.testBit j with
    | true => exact decide_eq_true (listN_mem.2 ⟨j, rfl, hj, hb⟩)
    | false =>
      refine decide_eq_false fun h => ?_
      obtain ⟨i, h1, _, h3⟩ := listN_mem.1 h
      have : j = i := by omega
      subst this; rw [hb] at h3; cases h3
  · have hb : m.testBit j = false := Nat.testBit_lt_two_pow (Nat.lt_of_lt_of_le hm (Nat.pow_le_pow_right (by decide) (by omega)))
    rw [hb]
    refine decide_eq_false fun h => ?_
    obtain ⟨i, h1, h2, _⟩ := listN_mem.1 h
    omega

theorem sCutM {F : Nat} {g : Gr} {m : Nat} (hg : good g = true) (h9 : 20 ≤ F) (hG : g.2.length < F) (hs : Sm g.2.length) (hm : m < 2 ^ g.1.toNat) : s_l7Cut F g (listN m.testBit g.1.toNat) = some (cutM g m) := by
  have h8 := good_size hg
  have hl : (listN m.testBit g.1.toNat).length ≤ 8 := by rw [listN_len]; exact Nat.le_trans cnt_le (by omega)
  have h := sCut_eq (F := F) (l := listN m.testBit g.1.toNat) (i := (listN m.testBit g.1.toNat).length) hg (by omega) hG (by unfold Sm; omega) hs (Nat.le_refl _)
  have e : preP (listN m.testBit g.1.toNat) (listN m.testBit g.1.toNat).length = m.testBit := by
    funext j
    unfold preP
    rw [List.take_length, listN_in hm]
  rw [e, List.take_length] at h
  exact h

/-- a loop that ends at the first index with a property -/
theorem loop_fst {β : Type} {L : Nat → Int → Option β} {n x : Nat} {p : Nat → Bool} {r : Option β} (hf : fstN p n = some x) (hs : ∀ k i, i < n → p i = false → L (k + 1) (i : Int) = L k ((i + 1 : Nat) : Int)) (hx : ∀ k, L (k + 1) (x : Int) = r) : ∀ k, n < k → L k 0 = r := by
  obtain ⟨h1, _, h3⟩ := fst_some hf
  have key : ∀ d i k, i + d = x → d < k → L k (i : Int) = r := by
    intro d
    induction d with
    | zero =>
      intro i k hi hk
      obtain ⟨k, rfl⟩ : ∃ k', k = k' + 1 := ⟨k - 1, by omega⟩
      obtain rfl : i = x := by omega
      exact hx k
    | succ d ih =>
      intro i k hi hk
      obtain ⟨k, rfl⟩ : ∃ k', k = k' + 1 := ⟨k - 1, by omega⟩
      rw [hs k i (by omega) (h3 i (by omega))]
      exact ih (i + 1) k (by omega) (by omega)
  intro k hk
  exact key x 0 k (by omega) (by omega)


/-- a greedy order: ever the first node that may follow -/
inductive Grd (n : Nat) (p : Nat → Nat → Bool) : Nat → Nat → List Int → Prop
  | done : Grd n p 0 (2 ^ n - 1) []
  | step {d m x : Nat} {l : List Int} : m < 2 ^ n → fstN (fun y => !m.testBit y && p m y) n = some x → Grd n p d (m ||| 2 ^ x) l → Grd n p (d + 1) m ((x : Int) :: l)
theorem grd_len {n : Nat} {p : Nat → Nat → Bool} {d m : Nat} {l : List Int} (h : Grd n p d m l) : l.length = d := by
  induction h with
  | done => rfl
  | step _ _ _ ih => rw [List.length_cons, ih]

theorem cnt_miss {n m x : Nat} (hx : x < n) (hb : m.testBit x = false) : cntN (fun j => !(m ||| 2 ^ x).testBit j) n + 1 = cntN (fun j => !m.testBit j) n := by
  have h1 := cnt_split (p := fun j => !m.testBit j) (q := fun j => j == x) n
  have h2 : cntN (fun j => !m.testBit j && !(j == x)) n = cntN (fun j => !(m ||| 2 ^ x).testBit j) n := by
    refine cnt_congr fun j _ => ?_
    rw [← orbit]
    show (!m.testBit j && !(j == x)) = !(m.testBit j || j == x)
    cases m.testBit j <;> cases (j == x) <;> rfl
  have h3 : cntN (fun j => (j == x) && !m.testBit j) n = 1 := by
    have key : ∀ k, cntN (fun j => (j == x) && !m.testBit j) k = if x < k then 1 else 0 := by
      intro k
      induction k with
      | zero => rfl
      | succ k ih =>
        have hs : cntN (fun j => (j == x) && !m.testBit j) (k + 1) = cntN (fun j => (j == x) && !m.testBit j) k + if ((k == x) && !m.testBit k) then 1 else 0 := by
          rw [cnt_sum, cnt_sum]; rfl
        rw [hs, ih]
        by_cases e : k = x
        · have h1 : ¬ x < k := by omega
          have h2 : x < k + 1 := by omega
          simp [e, h1, h2, hb]
        · have h1 : (k == x) = false := by simpa using e
          by_cases h : x < k
          · have h2 : x < k + 1 := by omega
            simp [h1, h, h2]
          · have h2 : ¬ x < k + 1 := by omega
            simp [h1, h, h2]
    rw [key, if_pos hx]
  omega

/-- by a table from above there is a greedy order -/
theorem grd_ex {n : Nat} {c : Nat → Nat → Int} {T : Nat → Int} (hn : n ≤ 8) (hT : IsBack n c 0 T) {t : Int} : ∀ m, m < 2 ^ n → T m ≤ t → ∃ l, Grd n (fun m x => decide (max (c m x) (T (m ||| 2 ^ x)) ≤ t)) (cntN (fun j => !m.testBit j) n) m l := by
  have key : ∀ d m, m + d = 2 ^ n → m < 2 ^ n → T m ≤ t → ∃ l, Grd n (fun m x => decide (max (c m x) (T (m ||| 2 ^ x)) ≤ t)) (cntN (fun j => !m.testBit j) n) m l := by
    intro d
    induction d using Nat.strongRecOn with
    | ind d ih =>
      intro m hd hm ht
      by_cases hf : m = 2 ^ n - 1
      · have : cntN (fun j => !m.testBit j) n = 0 := by
          rw [cnt_zero, fst_none]
          intro j hj
          rw [hf, Nat.testBit_two_pow_sub_one, decide_eq_true hj]; rfl
        rw [this, hf]
        exact ⟨[], .done⟩
      · have hne : outs n m ≠ [] := fun e => hf ((outs_nil hm).1 e)
        rw [hT m hm, mn_le hne] at ht
        obtain ⟨y, hy, h⟩ := ht
        obtain ⟨z, rfl, hz, hzb⟩ := outs_mem.1 hy
        rw [Int.toNat_natCast] at h
        cases hfs : fstN (fun y => !m.testBit y && decide (max (c m y) (T (m ||| 2 ^ y)) ≤ t)) n with
        | none =>
          have := fst_none.1 hfs z hz
          rw [hzb, decide_eq_true h] at this; cases this
        | some x =>
          obtain ⟨hx, hp, _⟩ := fst_some hfs
          simp only [Bool.and_eq_true, Bool.not_eq_true', decide_eq_true_eq] at hp
          have h1 := add_all m (lt256 hn hm) x (by omega) hp.1
          have h2 := or_lt hm hx
          have h3 := Nat.two_pow_pos x
          obtain ⟨l, hl⟩ := ih (2 ^ n - (m ||| 2 ^ x)) (by omega) (m ||| 2 ^ x) (by omega) h2 (by omega)
          refine ⟨(x : Int) :: l, ?_⟩
          rw [← cnt_miss hx hp.1]
          exact .step hm hfs hl
  intro m hm
  exact key (2 ^ n - m) m (by omega) hm

end Go.Zq
/- Plain mathematics: the table of best orders for a cost (cut). -/
namespace Go.Zq

theorem best_cut {F : Nat} {g : Gr} {nn : Int} (hg : good g = true) (hF : 300 ≤ F) :
    ∃ best : List Int, i_net_bestOrders_of_i_net_cut F ⟨nearL g⟩ nn ⟨(⟨nearL g⟩, ()), ()⟩ = some best ∧ best.length = 2 ^ g.1.toNat ∧ IsBack g.1.toNat (cutP g) nn (fun m => best.getD m 0) := by
  have h8 := good_size hg
  obtain ⟨n, hn⟩ : ∃ n : Nat, g.1.toNat = n := ⟨_, rfl⟩
  have hn8 : n ≤ 8 := by omega
  have hpow := Nat.two_pow_pos n
  have hp256 : 2 ^ n ≤ 256 := by
    have := Nat.pow_le_pow_right (n := 2) (by decide) hn8
    simpa using this
  have hall : i_net_all F ⟨nearL g⟩ = some ((2 ^ n - 1 : Nat) : Int) := by
    unfold i_net_all
    rw [nearL_len, hn, one_shl (by omega), Option.bind_some, w64_id (by omega) (by omega)]
    congr 1; omega
  have hw : w64 (((2 ^ n - 1 : Nat) : Int) + 1) = ((2 ^ n : Nat) : Int) := by rw [w64_id (by omega) (by omega)]; omega
  unfold i_net_bestOrders_of_i_net_cut
  rw [hall, Option.bind_some, hw, mkN_nat (by omega), Option.bind_some, Option.bind_some, hn]
  have key : ∀ d k (best : List Int), d ≤ 2 ^ n → d < k → best.length = 2 ^ n →
      (∀ j, d ≤ j → j < 2 ^ n → best.getD j 0 = mn (fun x => max (cutP g j x.toNat) (best.getD (j ||| 2 ^ x.toNat) 0)) (outs n j) nn) →
      ∃ b, i_net_bestOrders_of_i_net_cut_l2 F nn ⟨(⟨nearL g⟩, ()), ()⟩ ⟨nearL g⟩ k best ((d : Int) - 1) = some b ∧ b.length = 2 ^ n ∧ IsBack n (cutP g) nn (fun m => b.getD m 0) := by
    intro d
    induction d with
    | zero =>
      intro k best _ hk hlen hrec
      obtain ⟨k, rfl⟩ : ∃ k', k = k' + 1 := ⟨k - 1, by omega⟩
      refine ⟨best, ?_, hlen, fun m hm => hrec m (by omega) hm⟩
      simp only [i_net_bestOrders_of_i_net_cut_l2]
      rw [decide_eq_false (by omega), cond_false]
    | succ d ih =>
      intro k best hd hk hlen hrec
      obtain ⟨k, rfl⟩ : ∃ k', k = k' + 1 := ⟨k - 1, by omega⟩
      have hdn : d < 2 ^ n := by omega
      have e0 : ((d + 1 : Nat) : Int) - 1 = (d : Int) := by omega
      have hmk : iandNot .i64 ((2 ^ n - 1 : Nat) : Int) (d : Int) = ((mkm (fun x => !d.testBit x) n : Nat) : Int) := by
        obtain ⟨c, hc, _, hb⟩ := iandNot_nat (a := 2 ^ n - 1) (b := d) (by omega) (by omega)
        rw [hc]
        congr 1
        refine mkm_of fun j => ?_
        rw [hb, Nat.testBit_two_pow_sub_one]
      have hl8 : (outs n d).length ≤ 8 := by unfold outs; rw [listN_len]; exact Nat.le_trans cnt_le hn8
      simp only [i_net_bestOrders_of_i_net_cut_l2]
      rw [e0, decide_eq_true (by omega), cond_true, idx_getD (d := 0) (by omega), Option.bind_some, hall, Option.bind_some, hmk, setOf_eq hn8 (by omega), Option.bind_some, Int.toNat_natCast]
      obtain ⟨s, hs, he⟩ := loop_ex (L := fun k2 t s => i_net_bestOrders_of_i_net_cut_l1 F nn ⟨(⟨nearL g⟩, ()), ()⟩ ⟨nearL g⟩ (d : Int) (outs n d) (i_net_bestOrders_of_i_net_cut_l2 F nn ⟨(⟨nearL g⟩, ()), ()⟩ ⟨nearL g⟩ k) k2 s t) (n := (outs n d).length)
        (fun t s => s = best.set d (mn (fun x => max (cutP g d x.toNat) (best.getD (d ||| 2 ^ x.toNat) 0)) ((outs n d).take t) nn)) (fin := fun s => i_net_bestOrders_of_i_net_cut_l2 F nn ⟨(⟨nearL g⟩, ()), ()⟩ ⟨nearL g⟩ k s ((d : Int) - 1)) (by
          intro k2 t s ht hI
          subst hI
          refine ⟨_, rfl, ?_⟩
          obtain ⟨x, hx, hxn, hxb⟩ := outs_mem.1 (getD_mem (d := 0) ht)
          have hgt := add_all d (by omega) x (by omega) hxb
          have hxp := Nat.two_pow_pos x
          have hor := or_lt hdn hxn
          have hcost := cutP_eq (F := F) (m := d) (x := x) hg (by omega) (by rw [hn]; exact hdn) (by rw [hn]; exact hxn)
          have htake : (outs n d).take (t + 1) = (outs n d).take t ++ [(x : Int)] := by
            rw [List.take_add_one, List.getElem?_eq_getElem ht]
            rw [List.getD_eq_getElem?_getD, List.getElem?_eq_getElem ht, Option.getD_some] at hx
            rw [hx]; rfl
          have hget : ∀ a : Int, (best.set d a).getD (d ||| 2 ^ x) 0 = best.getD (d ||| 2 ^ x) 0 := by
            intro a
            rw [List.getD_eq_getElem?_getD, List.getElem?_set_ne (by omega), ← List.getD_eq_getElem?_getD]
          have hgetd : ∀ a : Int, (best.set d a).getD d 0 = a := by
            intro a
            rw [List.getD_eq_getElem?_getD, List.getElem?_set_self (by omega), Option.getD_some]
          simp only [i_net_bestOrders_of_i_net_cut_l1, i_net_bestOrders_of_i_net_cut_j1, i_net_bestOrders_of_i_net_cut_j2]
          rw [decide_eq_true (show (t : Int) < ((outs n d).length : Int) by omega), cond_true, idx_getD (d := 0) ht, Option.bind_some, hx]
          rw [hcost, Option.bind_some, one_shl (by omega), Option.bind_some, ior_nat (by omega) (pow_lt (by omega)), idx_getD (d := 0) (by rw [List.length_set]; omega), Option.bind_some, hget, idx_getD (d := 0) (by rw [List.length_set]; omega), Option.bind_some, Option.bind_some, hgetd, Int.toNat_natCast, List.set_set, w64_succ ht (by unfold Sm; omega), htake, mn_snoc]
          have hmax : (if best.getD (d ||| 2 ^ x) 0 > cutP g d x then best.getD (d ||| 2 ^ x) 0 else cutP g d x) = max (cutP g d x) (best.getD (d ||| 2 ^ x) 0) := by
            by_cases h : best.getD (d ||| 2 ^ x) 0 > cutP g d x
            · rw [if_pos h, Int.max_eq_right (by omega)]
            · rw [if_neg h, Int.max_eq_left (by omega)]
          rw [hmax, Int.toNat_natCast]
          by_cases ht0 : t = 0
          · subst ht0
            rw [if_pos (.inl (by simp))]
            rfl
          · have hne : (outs n d).take t ≠ [] := by
              intro e
              have := congrArg List.length e
              rw [List.length_take] at this
              simp only [List.length_nil] at this
              omega
            have hb : ((t : Int) == 0) = false := by rw [beq_eq_false_iff_ne]; omega
            rw [hb, cond_false]
            by_cases hlt : max (cutP g d x) (best.getD (d ||| 2 ^ x) 0) < mn (fun x => max (cutP g d x.toNat) (best.getD (d ||| 2 ^ x.toNat) 0)) ((outs n d).take t) nn
            · rw [decide_eq_true hlt, cond_true, if_pos (.inr hlt)]
            · rw [decide_eq_false hlt, cond_false, if_neg (fun h => h.elim hne hlt)]) (by
          intro k2 s hI
          simp only [i_net_bestOrders_of_i_net_cut_l1]
          rw [decide_eq_false (show ¬ ((outs n d).length : Int) < ((outs n d).length : Int) by omega), cond_false, w64_id (by omega) (by omega)]) F (best.set d nn) (by omega) rfl
      have he' : i_net_bestOrders_of_i_net_cut_l1 F nn ⟨(⟨nearL g⟩, ()), ()⟩ ⟨nearL g⟩ (d : Int) (outs n d) (i_net_bestOrders_of_i_net_cut_l2 F nn ⟨(⟨nearL g⟩, ()), ()⟩ ⟨nearL g⟩ k) F (best.set d nn) 0 = i_net_bestOrders_of_i_net_cut_l2 F nn ⟨(⟨nearL g⟩, ()), ()⟩ ⟨nearL g⟩ k s ((d : Int) - 1) := he
      rw [List.take_length] at hs
      rw [show listN (fun x => !d.testBit x) n = outs n d from rfl, he']
      refine ih k s (by omega) (by omega) (by rw [hs, List.length_set]; exact hlen) ?_
      have hsd : s.getD d 0 = mn (fun x => max (cutP g d x.toNat) (best.getD (d ||| 2 ^ x.toNat) 0)) (outs n d) nn := by
        rw [hs, List.getD_eq_getElem?_getD, List.getElem?_set_self (by omega), Option.getD_some]
      have hsne : ∀ j, j ≠ d → s.getD j 0 = best.getD j 0 := by
        intro j hj
        rw [hs, List.getD_eq_getElem?_getD, List.getElem?_set_ne (by omega), ← List.getD_eq_getElem?_getD]
      intro j h1 h2
      have hcg : mn (fun x => max (cutP g j x.toNat) (best.getD (j ||| 2 ^ x.toNat) 0)) (outs n j) nn = mn (fun x => max (cutP g j x.toNat) (s.getD (j ||| 2 ^ x.toNat) 0)) (outs n j) nn := by
        refine mn_congr fun y hy => ?_
        obtain ⟨x, rfl, hxn, hxb⟩ := outs_mem.1 hy
        have hgt := add_all j (by omega) x (by omega) hxb
        have hxp := Nat.two_pow_pos x
        rw [Int.toNat_natCast, hsne _ (by omega)]
      by_cases e : j = d
      · subst e; rw [hsd, hcg]
      · rw [hsne j e, hrec j (by omega) h2, hcg]
  have e1 : ((2 ^ n - 1 : Nat) : Int) = ((2 ^ n : Nat) : Int) - 1 := by omega
  rw [e1]
  exact key (2 ^ n) F _ (by omega) (by omega) (by simp) (fun j h1 h2 => absurd h2 (by omega))

end Go.Zq
/- Plain mathematics: the first best order for a cost (cut). -/
namespace Go.Zq

theorem first_cut {F : Nat} {g : Gr} {best : List Int} (hg : good g = true) (hF : 300 ≤ F) (hb : best.length = 2 ^ g.1.toNat) :
    ∀ {d m : Nat} {l : List Int}, Grd g.1.toNat (fun m x => decide (max (cutP g m x) (best.getD (m ||| 2 ^ x) 0) ≤ best.getD 0 0)) d m l →
    ∀ (o : NL Int) (k : Nat), d < k → o.list.length + d ≤ 100 → ∃ o', i_net_firstOrder_of_i_net_cut_o_l2 F best ⟨(⟨nearL g⟩, ()), ()⟩ ⟨nearL g⟩ k o (m : Int) = some o' ∧ o'.list = o.list ++ l := by
  have h8 := good_size hg
  obtain ⟨n, hn⟩ : ∃ n : Nat, g.1.toNat = n := ⟨_, rfl⟩
  have hn8 : n ≤ 8 := by omega
  have hpow := Nat.two_pow_pos n
  have hp256 := pow256 hn8
  have hall : i_net_all F ⟨nearL g⟩ = some ((2 ^ n - 1 : Nat) : Int) := by
    unfold i_net_all
    rw [nearL_len, hn, one_shl (by omega), Option.bind_some, w64_id (by omega) (by omega)]
    congr 1; omega
  rw [hn] at hb ⊢
  intro d m l h
  induction h with
  | done =>
    intro o k hk _
    obtain ⟨k, rfl⟩ : ∃ k', k = k' + 1 := ⟨k - 1, by omega⟩
    refine ⟨o, ?_, by simp⟩
    simp only [i_net_firstOrder_of_i_net_cut_o_l2]
    rw [hall, Option.bind_some, bne_self_eq_false, cond_false]
  | step hm hf hgrd ih =>
    rename_i d m x l
    intro o k hk ho
    obtain ⟨k, rfl⟩ : ∃ k', k = k' + 1 := ⟨k - 1, by omega⟩
    obtain ⟨hx, hp, _⟩ := fst_some hf
    simp only [Bool.and_eq_true, Bool.not_eq_true', decide_eq_true_eq] at hp
    obtain ⟨hxb, hle⟩ := hp
    have hmf : m ≠ 2 ^ n - 1 := by
      rintro rfl
      rw [Nat.testBit_two_pow_sub_one, decide_eq_true hx] at hxb; cases hxb
    have hmk : iandNot .i64 ((2 ^ n - 1 : Nat) : Int) (m : Int) = ((mkm (fun x => !m.testBit x) n : Nat) : Int) := by
      obtain ⟨c, hc, _, hb⟩ := iandNot_nat (a := 2 ^ n - 1) (b := m) (by omega) (by omega)
      rw [hc]
      congr 1
      refine mkm_of fun j => ?_
      rw [hb, Nat.testBit_two_pow_sub_one]
    have hl8 : (outs n m).length ≤ 8 := by unfold outs; rw [listN_len]; exact Nat.le_trans cnt_le hn8
    obtain ⟨o', ho1, ho2⟩ := ih (.of (o.list ++ [(x : Int)])) k (by omega) (by show (o.list ++ [(x : Int)]).length + d ≤ 100; rw [List.length_append, List.length_singleton]; omega)
    refine ⟨o', ?_, by rw [ho2]; simp [NL.list]⟩
    have hne : (((m : Int)) != ((2 ^ n - 1 : Nat) : Int)) = true := by rw [bne_iff_ne]; omega
    simp only [i_net_firstOrder_of_i_net_cut_o_l2]
    rw [hall, Option.bind_some, hne, cond_true, Option.bind_some, hmk, setOf_eq hn8 (by omega), Option.bind_some]
    rw [first_listN, Option.map_eq_some_iff] at hf
    obtain ⟨i, hi, hix⟩ := hf
    have hil := (fst_some hi).1
    have hstep : ∀ (i : Nat) (hi : i < (outs n m).length), ∃ y : Nat, (outs n m).getD i 0 = y ∧ y < n ∧ i_net_cut F ⟨nearL g⟩ (m : Int) (y : Int) = some (cutP g m y) ∧ shlI .i64 1 (y : Int) = some ((2 ^ y : Nat) : Int) ∧ ior .i64 (m : Int) ((2 ^ y : Nat) : Int) = ((m ||| 2 ^ y : Nat) : Int) ∧ idx best (((m ||| 2 ^ y : Nat)) : Int) = some (best.getD (m ||| 2 ^ y) 0) := by
      intro i hi
      obtain ⟨y, hy, hyn, hyb⟩ := outs_mem.1 (getD_mem (d := 0) hi)
      have := or_lt hm hyn
      exact ⟨y, hy, hyn, cutP_eq hg (by omega) (by rw [hn]; exact hm) (by rw [hn]; exact hyn), one_shl (by omega), ior_nat (by omega) (pow_lt (by omega)), idx_getD (by omega)⟩
    have hz : idx best 0 = some (best.getD 0 0) := idx_getD (xs := best) (i := 0) (d := 0) (by omega)
    have hmax : ∀ a b : Int, (if b > a then b else a) = max a b := by
      intro a b
      by_cases h : b > a
      · rw [if_pos h, Int.max_eq_right (by omega)]
      · rw [if_neg h, Int.max_eq_left (by omega)]
    refine loop_fst (L := fun k2 i => i_net_firstOrder_of_i_net_cut_o_l1 F best ⟨(⟨nearL g⟩, ()), ()⟩ ⟨nearL g⟩ o (m : Int) (outs n m) (i_net_firstOrder_of_i_net_cut_o_l2 F best ⟨(⟨nearL g⟩, ()), ()⟩ ⟨nearL g⟩ k) k2 i) hi ?_ ?_ F (by show (outs n m).length < F; omega)
    · intro k2 i hi hpi
      obtain ⟨y, hy, hyn, y1, y2, y3, y4⟩ := hstep i hi
      have hpi : decide (max (cutP g m ((outs n m).getD i 0).toNat) (best.getD (m ||| 2 ^ ((outs n m).getD i 0).toNat) 0) ≤ best.getD 0 0) = false := hpi
      rw [hy, Int.toNat_natCast] at hpi
      simp only [i_net_firstOrder_of_i_net_cut_o_l1]
      rw [decide_eq_true (show (i : Int) < ((outs n m).length : Int) from by have : i < (outs n m).length := hi; omega), cond_true, idx_getD (xs := outs n m) (d := 0) hi, Option.bind_some, hy, y1, Option.bind_some, y2, Option.bind_some, y3, y4, Option.bind_some, hz, Option.bind_some, hmax, hpi, cond_false, w64_succ (n := (outs n m).length) hi (by have : (listN (fun x => !m.testBit x) n).length ≤ 8 := hl8; unfold Sm; omega)]
    · intro k2
      obtain ⟨y, hy, hyn, y1, y2, y3, y4⟩ := hstep i hil
      have hyx : y = x := by
        have e : ((outs n m).getD i 0).toNat = x := hix
        rw [hy] at e; omega
      subst hyx
      have hle' : decide (max (cutP g m y) (best.getD (m ||| 2 ^ y) 0) ≤ best.getD 0 0) = true := decide_eq_true hle
      simp only [i_net_firstOrder_of_i_net_cut_o_l1]
      rw [decide_eq_true (show (i : Int) < ((outs n m).length : Int) from by have : i < (outs n m).length := hil; omega), cond_true, idx_getD (xs := outs n m) (d := 0) hil, Option.bind_some, hy, y1, Option.bind_some, y2, Option.bind_some, y3, y4, Option.bind_some, hz, Option.bind_some, hmax, hle', cond_true, appL_one (by omega), Option.bind_some, Option.bind_some]
      rw [y3]
      exact ho1

end Go.Zq
/- Plain mathematics: the least cutwidth. -/
namespace Go.Zq

theorem mn_irr {v : Int → Int} {l : List Int} {a b : Int} (h : l ≠ []) : mn v l a = mn v l b := by
  unfold mn
  cases hm : mnO v l with
  | none => exact absurd (mnO_none.1 hm) h
  | some x => rfl

theorem rests_eq {F : Nat} {g : Gr} (hg : good g = true) (hF : 300 ≤ F) (hG : g.2.length < F) (hs : Sm g.2.length) :
    ∃ out : List Int, s_l7Rests F g = some out ∧ out.length = 2 ^ g.1.toNat ∧ IsBack g.1.toNat (cutP g) 0 (fun m => out.getD m 0) := by
  have h8 := good_size hg
  obtain ⟨n, hn⟩ : ∃ n : Nat, g.1.toNat = n := ⟨_, rfl⟩
  have hn8 : n ≤ 8 := by omega
  have hgn : g.1 = (n : Int) := by omega
  have hpow := Nat.two_pow_pos n
  have hp256 := pow256 hn8
  rw [hn]
  have key : ∀ d k (out : List Int), d < 2 ^ n → d < k → out.length = 2 ^ n → (∀ j, 0 ≤ out.getD j 0) →
      (∀ j, d ≤ j → j < 2 ^ n → out.getD j 0 = mn (fun x => max (cutP g j x.toNat) (out.getD (j ||| 2 ^ x.toNat) 0)) (outs n j) 0) →
      ∃ b, s_l7Rests_l2 F g k out ((d : Int) - 1) = some b ∧ b.length = 2 ^ n ∧ IsBack n (cutP g) 0 (fun m => b.getD m 0) := by
    intro d
    induction d with
    | zero =>
      intro k out _ hk hlen _ hrec
      obtain ⟨k, rfl⟩ : ∃ k', k = k' + 1 := ⟨k - 1, by omega⟩
      refine ⟨out, ?_, hlen, fun m hm => hrec m (by omega) hm⟩
      simp only [s_l7Rests_l2]
      rw [decide_eq_false (by omega), cond_false]
    | succ d ih =>
      intro k out hd hk hlen hpos hrec
      obtain ⟨k, rfl⟩ : ∃ k', k = k' + 1 := ⟨k - 1, by omega⟩
      have hdn : d < 2 ^ n := by omega
      have e0 : ((d + 1 : Nat) : Int) - 1 = (d : Int) := by omega
      have hne : outs n d ≠ [] := fun e => by have := (outs_nil hdn).1 e; omega
      have hv0 : ∀ y : Int, 0 ≤ max (cutP g d y.toNat) (out.getD (d ||| 2 ^ y.toNat) 0) := by
        intro y
        have := cutM_nonneg (g := g) (m := d ||| 2 ^ y.toNat)
        have : 0 ≤ cutP g d y.toNat := this
        omega
      simp only [s_l7Rests_l2]
      rw [e0, decide_eq_true (by omega), cond_true]
      have hl1 : s_l7Rests_l1 F g out (d : Int) (s_l7Rests_l2 F g k) F (-1) 0 = s_l7Rests_l2 F g k (out.set d (mn (fun y => max (cutP g d y.toNat) (out.getD (d ||| 2 ^ y.toNat) 0)) (outs n d) (-1))) ((d : Int) - 1) := by
        refine loop_inv (L := fun k2 x b => s_l7Rests_l1 F g out (d : Int) (s_l7Rests_l2 F g k) k2 b x) (n := n) (fun x b => b = mn (fun y => max (cutP g d y.toNat) (out.getD (d ||| 2 ^ y.toNat) 0)) (listN (fun j => !d.testBit j) x) (-1)) ?_ ?_ F (-1) (by omega) rfl
        · intro k2 x b hx hI
          subst hI
          refine ⟨_, rfl, ?_⟩
          obtain ⟨q, q1, q2, _⟩ := bit_at (m := d) (j := x) (by omega) (by omega)
          simp only [s_l7Rests_l1, s_l7Rests_j1, s_l7Rests_j2]
          rw [hgn, decide_eq_true (show (x : Int) < (n : Int) by omega), cond_true, q1, Option.bind_some, q2, w64_succ hx (by unfold Sm; omega)]
          cases hb : d.testBit x with
          | true =>
            rw [cond_true, listN_succ, hb]; simp
          | false =>
            have hgt := add_all d (by omega) x (by omega) hb
            have hxp := Nat.two_pow_pos x
            have hor := or_lt hdn hx
            have hw : w64 ((d : Int) + ((2 ^ x : Nat) : Int)) = ((d ||| 2 ^ x : Nat) : Int) := by rw [w64_id (by omega) (by omega)]; omega
            have hcut : s_l7Cut F g (listN (d ||| 2 ^ x).testBit n) = some (cutP g d x) := by
              have := sCutM (F := F) (m := d ||| 2 ^ x) hg (by omega) hG hs (by rw [hn]; exact hor)
              rw [hn] at this; exact this
            rw [cond_false, one_shl (by omega), Option.bind_some, hw, bits_eq hn8 (by omega) (by omega), Option.bind_some, hcut, Option.bind_some, Option.bind_some, hw, idx_getD (d := 0) (by omega), Option.bind_some, most_eq, Option.bind_some, listN_succ, hb, Bool.not_false, if_pos rfl, mn_snoc, Int.toNat_natCast]
            by_cases hl : listN (fun j => !d.testBit j) x = []
            · rw [hl, mn_nil, if_pos (.inl rfl), decide_eq_true (by omega)]; rfl
            · have h0 := mn_nonneg (nn := -1) (v := fun y => max (cutP g d y.toNat) (out.getD (d ||| 2 ^ y.toNat) 0)) hl (fun y _ => hv0 y)
              rw [decide_eq_false (by omega), cond_false]
              by_cases hlt : max (cutP g d x) (out.getD (d ||| 2 ^ x) 0) < mn (fun y => max (cutP g d y.toNat) (out.getD (d ||| 2 ^ y.toNat) 0)) (listN (fun j => !d.testBit j) x) (-1)
              · rw [decide_eq_true hlt, cond_true, if_pos (.inr hlt)]
              · rw [decide_eq_false hlt, cond_false, if_neg (fun h => h.elim hl hlt)]
        · intro k2 b hI
          subst hI
          simp only [s_l7Rests_l1]
          rw [hgn, decide_eq_false (show ¬ (n : Int) < (n : Int) by omega), cond_false, idx_getD (d := 0) (by omega), Option.bind_some, w64_id (by omega) (by omega), Int.toNat_natCast]
          rfl
      rw [hl1]
      have hmnp := mn_nonneg (nn := -1) (v := fun y => max (cutP g d y.toNat) (out.getD (d ||| 2 ^ y.toNat) 0)) hne (fun y _ => hv0 y)
      have hsd : (out.set d (mn (fun y => max (cutP g d y.toNat) (out.getD (d ||| 2 ^ y.toNat) 0)) (outs n d) (-1))).getD d 0 = mn (fun y => max (cutP g d y.toNat) (out.getD (d ||| 2 ^ y.toNat) 0)) (outs n d) (-1) := by
        rw [List.getD_eq_getElem?_getD, List.getElem?_set_self (by omega), Option.getD_some]
      have hsne : ∀ j, j ≠ d → (out.set d (mn (fun y => max (cutP g d y.toNat) (out.getD (d ||| 2 ^ y.toNat) 0)) (outs n d) (-1))).getD j 0 = out.getD j 0 := by
        intro j hj
        rw [List.getD_eq_getElem?_getD, List.getElem?_set_ne (by omega), ← List.getD_eq_getElem?_getD]
      refine ih k _ (by omega) (by omega) (by rw [List.length_set]; exact hlen) ?_ ?_
      · intro j
        by_cases e : j = d
        · subst e; rw [hsd]; exact hmnp
        · rw [hsne j e]; exact hpos j
      · intro j h1 h2
        have hcg : mn (fun x => max (cutP g j x.toNat) (out.getD (j ||| 2 ^ x.toNat) 0)) (outs n j) 0 = mn (fun x => max (cutP g j x.toNat) ((out.set d (mn (fun y => max (cutP g d y.toNat) (out.getD (d ||| 2 ^ y.toNat) 0)) (outs n d) (-1))).getD (j ||| 2 ^ x.toNat) 0)) (outs n j) 0 := by
          refine mn_congr fun y hy => ?_
          obtain ⟨x, rfl, hxn, hxb⟩ := outs_mem.1 hy
          have hgt := add_all j (by omega) x (by omega) hxb
          have hxp := Nat.two_pow_pos x
          rw [Int.toNat_natCast, hsne _ (by omega)]
        by_cases e : j = d
        · subst e; rw [hsd, ← hcg]; exact mn_irr hne
        · rw [hsne j e, hrec j (by omega) h2, hcg]
  unfold s_l7Rests
  rw [hgn, one_shl (by omega), Option.bind_some, mkN_nat (by omega), Option.bind_some]
  have hw : w64 (((List.replicate (2 ^ n) (0 : Int)).length : Int) - 2) = ((2 ^ n - 1 : Nat) : Int) - 1 := by
    rw [List.length_replicate, w64_id (by omega) (by omega)]; omega
  rw [hw]
  have hz : ∀ j, (List.replicate (2 ^ n) (0 : Int)).getD j 0 = 0 := by
    intro j
    rw [List.getD_eq_getElem?_getD, List.getElem?_replicate]
    split <;> rfl
  refine key (2 ^ n - 1) F _ (by omega) (by omega) (by simp) (fun j => by rw [hz j]; exact Int.le_refl _) ?_
  intro j h1 h2
  obtain rfl : j = 2 ^ n - 1 := by omega
  rw [(outs_nil (by omega)).2 rfl, mn_nil, hz]

theorem sLc_grd {F : Nat} {g : Gr} {T : List Int} (hg : good g = true) (hF : 300 ≤ F) (hG : g.2.length < F) (hs : Sm g.2.length) (hb : T.length = 2 ^ g.1.toNat) :
    ∀ {d m : Nat} {l : List Int}, Grd g.1.toNat (fun m x => decide (max (cutP g m x) (T.getD (m ||| 2 ^ x) 0) ≤ T.getD 0 0)) d m l →
    ∀ (R : List Int) (k : Nat), d < k → R.length + d = g.1.toNat → s_LeastCutwidth_l2 F g T k R (m : Int) = some (S3.mk (R ++ l) (T.getD 0 0) true) := by
  have h8 := good_size hg
  obtain ⟨n, hn⟩ : ∃ n : Nat, g.1.toNat = n := ⟨_, rfl⟩
  have hn8 : n ≤ 8 := by omega
  have hgn : g.1 = (n : Int) := by omega
  have hpow := Nat.two_pow_pos n
  have hp256 := pow256 hn8
  rw [hn] at hb ⊢
  have hz : idx T 0 = some (T.getD 0 0) := idx_getD (xs := T) (i := 0) (d := 0) (by omega)
  intro d m l h
  induction h with
  | done =>
    intro R k hk hR
    obtain ⟨k, rfl⟩ : ∃ k', k = k' + 1 := ⟨k - 1, by omega⟩
    simp only [s_LeastCutwidth_l2]
    rw [hgn, decide_eq_false (by omega), cond_false, hz, Option.bind_some, List.append_nil]
  | step hm hf hgrd ih =>
    rename_i d m x l
    intro R k hk hR
    obtain ⟨k, rfl⟩ : ∃ k', k = k' + 1 := ⟨k - 1, by omega⟩
    obtain ⟨hx, hp, hlo⟩ := fst_some hf
    simp only [Bool.and_eq_true, Bool.not_eq_true', decide_eq_true_eq] at hp
    obtain ⟨hxb, hle⟩ := hp
    simp only [s_LeastCutwidth_l2]
    rw [hgn, decide_eq_true (by omega), cond_true]
    have hst : ∀ x : Nat, x < n → m.testBit x = false → shlI .i64 1 (x : Int) = some ((2 ^ x : Nat) : Int) ∧ w64 ((m : Int) + ((2 ^ x : Nat) : Int)) = ((m ||| 2 ^ x : Nat) : Int) ∧ s_l2Bits F (n : Int) (((m ||| 2 ^ x : Nat)) : Int) = some (listN (m ||| 2 ^ x).testBit n) ∧ s_l7Cut F g (listN (m ||| 2 ^ x).testBit n) = some (cutP g m x) ∧ idx T (((m ||| 2 ^ x : Nat)) : Int) = some (T.getD (m ||| 2 ^ x) 0) := by
      intro x hx hb
      have hgt := add_all m (by omega) x (by omega) hb
      have hxp := Nat.two_pow_pos x
      have hor := or_lt hm hx
      have hcut := sCutM (F := F) (m := m ||| 2 ^ x) hg (by omega) hG hs (by rw [hn]; exact hor)
      rw [hn] at hcut
      exact ⟨one_shl (by omega), by rw [w64_id (by omega) (by omega)]; omega, bits_eq hn8 (by omega) (by omega), hcut, idx_getD (by omega)⟩
    refine loop_fst (L := fun k2 i => s_LeastCutwidth_l1 F g R T (m : Int) (s_LeastCutwidth_l2 F g T k) k2 i) hf ?_ ?_ F (by omega)
    · intro k2 i hi hpi
      obtain ⟨q, q1, q2, _⟩ := bit_at (m := m) (j := i) (by omega) (by omega)
      simp only [s_LeastCutwidth_l1, s_LeastCutwidth_j1]
      rw [q1, Option.bind_some, q2, cond_true, w64_succ hi (by unfold Sm; omega)]
      cases hb : m.testBit i with
      | true => rfl
      | false =>
        obtain ⟨a1, a2, a3, a4, a5⟩ := hst i hi hb
        have hpi : ¬ max (cutP g m i) (T.getD (m ||| 2 ^ i) 0) ≤ T.getD 0 0 := by
          have hpi : (!m.testBit i && decide (max (cutP g m i) (T.getD (m ||| 2 ^ i) 0) ≤ T.getD 0 0)) = false := hpi
          rw [hb] at hpi
          simpa using hpi
        rw [cond_false, a1, Option.bind_some, a2, hgn, a3, Option.bind_some, a4, Option.bind_some, hz, Option.bind_some]
        by_cases hc : cutP g m i > T.getD 0 0
        · rw [decide_eq_true hc, cond_true]
        · rw [decide_eq_false hc, cond_false, Option.bind_some, a2, a5, Option.bind_some, Option.bind_some, decide_eq_true (by omega), cond_true]
    · intro k2
      obtain ⟨q, q1, q2, _⟩ := bit_at (m := m) (j := x) (by omega) (by omega)
      obtain ⟨a1, a2, a3, a4, a5⟩ := hst x hx hxb
      simp only [s_LeastCutwidth_l1, s_LeastCutwidth_j1]
      rw [q1, Option.bind_some, q2, hxb, cond_false, a1, Option.bind_some, a2, hgn, a3, Option.bind_some, a4, Option.bind_some, hz, Option.bind_some, decide_eq_false (by omega), cond_false, Option.bind_some, a2, a5, Option.bind_some, Option.bind_some, decide_eq_false (by omega), cond_false, appL_one (by omega), Option.bind_some, Option.bind_some, a2]
      rw [ih (R ++ [(x : Int)]) k (by omega) (by rw [List.length_append, List.length_singleton]; omega)]
      simp

theorem exLeastCutwidth {F : Nat} {g : Gr} (h9 : 300 ≤ F) (hG : g.2.length < F) (hs : Sm g.2.length) :
    ∃ R c b o, s_LeastCutwidth F g = some (S3.mk R c b) ∧ i_LeastCutwidth_o F g = some (S3.mk o c b) ∧ o.list = R ∧ R.length ≤ 8 := by
  unfold s_LeastCutwidth i_LeastCutwidth_o
  rw [l2Good_eq hG hs, isGraph_eq hG (by omega) hs, Option.bind_some, Option.bind_some]
  cases hg : good g with
  | false => exact ⟨[], 0, false, .nil, rfl, rfl, rfl, by simp⟩
  | true =>
    have h8 := good_size hg
    have hpow := Nat.two_pow_pos g.1.toNat
    have hp256 := pow256 (n := g.1.toNat) (by omega)
    rw [Bool.not_true, cond_false, cond_false]
    obtain ⟨out, o1, o2, o3⟩ := rests_eq hg h9 hG hs
    obtain ⟨best, b1, b2, b3⟩ := best_cut (F := F) (nn := 0) hg h9
    have heq : out = best := by
      refine List.ext_getElem (by omega) fun i h1 h2 => ?_
      have := back_uniq (by omega) o3 b3 i (by omega)
      rwa [List.getD_eq_getElem?_getD, List.getElem?_eq_getElem h1, Option.getD_some, List.getD_eq_getElem?_getD, List.getElem?_eq_getElem h2, Option.getD_some] at this
    subst heq
    obtain ⟨l, hl⟩ := grd_ex (t := out.getD 0 0) (by omega) o3 0 hpow (Int.le_refl _)
    have hc0 : cntN (fun j => !(0 : Nat).testBit j) g.1.toNat = g.1.toNat := by
      have : ∀ n, cntN (fun j => !(0 : Nat).testBit j) n = n := by
        intro n
        simp [cntN]
      exact this _
    rw [hc0] at hl
    obtain ⟨o, f1, f2⟩ := first_cut hg h9 o2 hl .nil F (by omega) (by show 0 + g.1.toNat ≤ 100; omega)
    have hs2 := sLc_grd hg h9 hG hs o2 hl [] F (by omega) (by simp)
    have hz : idx out 0 = some (out.getD 0 0) := idx_getD (xs := out) (i := 0) (d := 0) (by omega)
    refine ⟨l, out.getD 0 0, true, o, ?_, ?_, ?_, by rw [grd_len hl]; omega⟩
    · rw [o1, Option.bind_some]
      exact hs2
    · rw [netOf_eq hg hG hs, Option.bind_some, b1, Option.bind_some]
      unfold i_net_firstOrder_of_i_net_cut_o
      have f1' : i_net_firstOrder_of_i_net_cut_o_l2 F out ⟨(⟨nearL g⟩, ()), ()⟩ ⟨nearL g⟩ F .nil 0 = some o := f1
      rw [f1', Option.bind_some, hz, Option.bind_some]
    · rw [f2]; rfl

end Go.Zq
