/- Plain mathematics: what the functions answer (part 2). Conditions: stated in each theorem. -/
import Derived.Test.YtonidecbmdpfhaaM1
set_option linter.unusedVariables false
set_option linter.unusedSimpArgs false
/- Plain mathematics: treedepths of all sets. -/
namespace Go.Zq

end Go.Zq
/- Plain mathematics: steps of a search. -/
namespace Go.Zq

end Go.Zq
/- Plain mathematics: steps of a search, in the reference; programs. -/
namespace Go.Zq

theorem cnt_zero {p : Nat → Bool} {n : Nat} : cntN p n = 0 ↔ fstN p n = none := by
  rw [fst_none]
  constructor
  · intro h j hj
    cases hp : p j with
    | false => rfl
    | true =>
      have := cnt_lt (p := fun _ => false) (q := p) (n := n) (by simp) ⟨j, hj, rfl, hp⟩
      omega
  · intro h
    rw [cnt_congr (q := fun _ => false) h]
    unfold cntN
    rw [List.countP_eq_zero]; simp

end Go.Zq
/- Plain mathematics: cops that stay, and treedepth. -/
namespace Go.Zq

end Go.Zq
/- Plain mathematics: parts, and what is connected. -/
namespace Go.Zq

end Go.Zq
/- Plain mathematics: path decompositions. -/
namespace Go.Zq

structure Bg (F : Nat) (bags : List (List Int)) : Prop where
  len : bags.length ≤ 1048576
  each : ∀ x ∈ bags, x.length ≤ 1048576
  fuel : 1048577 ≤ F

theorem Bg.at {F : Nat} {bags : List (List Int)} (h : Bg F bags) {i : Nat} (hi : i < bags.length) : (bags.getD i []).length ≤ 1048576 := h.each _ (getD_mem hi)

theorem Bg.of {F : Nat} {bags : List (List Int)} (h : bags.length + sumL bags bags.length ≤ 1048576) (hF : 1048577 ≤ F) : Bg F bags := by
  refine ⟨by omega, fun x hx => ?_, hF⟩
  obtain ⟨i, hi, e⟩ := List.mem_iff_getElem.1 hx
  have := sumL_le hi
  rw [List.getD_eq_getElem?_getD, List.getElem?_eq_getElem hi, Option.getD_some, e] at this
  omega
end Go.Zq
/- Plain mathematics: sets of nodes as lists and as numbers; brambles. -/
namespace Go.Zq

/-- the nodes of a list -/
def bq (l : List Int) (j : Nat) : Bool := decide ((j : Int) ∈ l)

end Go.Zq
/- Plain mathematics: own copies of arguments; lists that are marked. -/
namespace Go.Zq

theorem toIntA2S_o_eq {F : Nat} {xs : List (Int × Int)} (hF : xs.length < F) (hl : xs.length ≤ 1099511627776) (h3 : 3 ≤ F) : w_toIntA2S_o F xs = some (.of xs) := by
  unfold w_toIntA2S_o
  rw [mkN_nat hl, Option.bind_some]
  refine loop_inv (L := fun k i s => w_toIntA2S_o_l1 F xs k s i) (n := xs.length) (fun i ys => ys.length = xs.length ∧ ys.take i = xs.take i) ?_ ?_ F _ hF (by simp)
  · intro k i s hi hI
    refine ⟨_, copied hI hi, ?_⟩
    simp only [w_toIntA2S_o_l1]
    rw [idx_nat hi, idx_nat (by omega), w64_succ hi (by unfold Sm; omega)]
    simp [hi, toIntA2_eq h3]
  · intro k s hI
    simp only [w_toIntA2S_o_l1]
    rw [copied_end hI]; simp

theorem toGraph_o_eq {F : Nat} {g : Int × List (Int × Int)} (hF : g.2.length < F) (hl : g.2.length ≤ 1099511627776) (h3 : 3 ≤ F) : w_toGraph_o F g = some (g.1, .of g.2) := by
  unfold w_toGraph_o
  rw [toIntA2S_o_eq hF hl h3]; rfl

/-- what a marked list is -/
def mkd (n : Nat) (k : Int) : List Int := (List.range n).map fun (i : Nat) => k + (i : Int)
theorem mkd_length {n : Nat} {k : Int} : (mkd n k).length = n := by simp [mkd]
theorem mkd_get {n i : Nat} {k : Int} (h : i < n) : idx (mkd n k) (i : Int) = some (k + i) := by
  rw [idx_nat (by rw [mkd_length]; exact h)]
  simp [mkd]

theorem markIntS_eq {F : Nat} {o : NL Int} {k : Int} (hF : o.list.length < F) (hl : o.list.length ≤ 1099511627776) (h0 : 0 ≤ k) (hk : k ≤ 4611686018427387904) :
    ∃ o', w_markIntS F ⟨o⟩ k = some (k + o.list.length, o') ∧ remark o o' = some o' ∧ o'.list = mkd o.list.length k := by
  cases o with
  | nil =>
    obtain ⟨j, rfl⟩ : ∃ j, F = j + 1 := ⟨F - 1, by omega⟩
    exact ⟨.nil, by simp [w_markIntS, w_markIntS_l1, NL.list], rfl, by simp [NL.list, mkd]⟩
  | of xs =>
    simp only [NL.list] at hF hl ⊢
    obtain ⟨s, ⟨ys, h1, h2, h3, h4⟩, h5⟩ := loop_ex (L := fun j i (s : NL Int × Int) => w_markIntS_l1 F j s.1 s.2 i) (n := xs.length) (fin := fun s => some (s.2, s.1))
      (fun i s => ∃ ys : List Int, s.1 = .of ys ∧ ys.length = xs.length ∧ s.2 = k + i ∧ ∀ j, j < i → ys[j]? = some (k + (j : Int)))
      (by
        rintro j i ⟨a, b⟩ hi ⟨ys, rfl, h2, rfl, h4⟩
        refine ⟨(.of (ys.set i (k + i)), k + ((i + 1 : Nat) : Int)), ⟨_, rfl, by simp [h2], rfl, ?_⟩, ?_⟩
        · intro m hm
          rw [List.getElem?_set]
          by_cases e : i = m
          · subst e; simp [h2, hi]
          · simp only [e, if_false]; exact h4 m (by omega)
        · simp only [w_markIntS_l1, NL.list]
          have : decide ((i : Int) < (ys.length : Int)) = true := by simp; omega
          change (bif decide ((i : Int) < (ys.length : Int)) then _ else _) = _
          rw [this, cond_true, idx_nat (by omega), Option.bind_some, w64_succ hi (by unfold Sm; omega), w64_id (x := k + i + 1) (by omega) (by omega)]
          simp only [NL.set, Int.toNat_natCast]
          congr 1
          omega)
      (by
        rintro j ⟨a, b⟩ ⟨ys, rfl, h2, rfl, h4⟩
        simp only [w_markIntS_l1, NL.list, h2]
        simp) F (.of xs, k) hF ⟨xs, rfl, rfl, by simp, by simp⟩
    obtain ⟨a, b⟩ := s
    simp only at h1 h3 h5
    subst h1; subst h3
    refine ⟨.of ys, ?_, by simp [remark, h2], ?_⟩
    · unfold w_markIntS; exact h5
    · simp only [NL.list]
      apply List.ext_getElem?
      intro i
      by_cases hi : i < xs.length
      · rw [h4 i hi]; simp [mkd, hi]
      · rw [List.getElem?_eq_none (by omega), List.getElem?_eq_none (by rw [mkd_length]; omega)]

theorem heldIntS_eq {F n : Nat} {k : Int} (hF : n < F) (hl : n ≤ 1099511627776) (h0 : 0 ≤ k) (hk : k ≤ 4611686018427387904) : w_heldIntS F (mkd n k) k = some (k + n) := by
  unfold w_heldIntS
  refine loop_inv (L := fun j i s => w_heldIntS_l1 F (mkd n k) j s i) (n := n) (fun i s => s = k + (i : Int)) ?_ ?_ F _ hF (by simp)
  · rintro j i s hi rfl
    refine ⟨_, rfl, ?_⟩
    simp only [w_heldIntS_l1, mkd_length]
    have : decide ((i : Int) < (n : Int)) = true := by simpa using hi
    rw [this, cond_true, mkd_get hi, Option.bind_some, w64_succ hi (by unfold Sm; omega), w64_id (x := k + i + 1) (by omega) (by omega)]
    simp only [bne_self_eq_false, cond_false]
    congr 1
    omega
  · rintro j s rfl
    simp only [w_heldIntS_l1, mkd_length]
    simp

theorem set2_length {α : Type} {xs : List (α × α)} {i : Nat} {j : Int} {b : α} : (set2 xs i j b).length = xs.length := by
  unfold set2
  split <;> simp

theorem markGraph_eq {F : Nat} {a : Int} {xs : List (Int × Int)} {k : Int} (hF : xs.length < F) (h3 : 3 ≤ F) (hl : xs.length ≤ 1099511627776) (h0 : 0 ≤ k) (hk : k ≤ 4611686018427387904) :
    w_markGraph F ⟨a, .of xs⟩ k = some (k + 2 * xs.length) := by
  obtain ⟨s, ⟨ys, h1, h2, h4⟩, h5⟩ := loop_ex (L := fun j i (s : NL (Int × Int) × Int) => w_markIntA2S_l2 F j s.1 s.2 i) (n := xs.length) (fin := fun s => some (s.2, s.1))
      (fun i s => ∃ ys : List (Int × Int), s.1 = .of ys ∧ ys.length = xs.length ∧ s.2 = k + 2 * (i : Int))
      (by
        rintro j i ⟨a, b⟩ hi ⟨ys, rfl, h2, rfl⟩
        refine ⟨(.of (set2 (set2 ys i 0 (k + 2 * i)) i 1 (k + 2 * i + 1)), k + 2 * ((i + 1 : Nat) : Int)), ⟨_, rfl, by simp [set2_length, h2], rfl⟩, ?_⟩
        simp only [w_markIntA2S_l2, NL.list]
        have : decide ((i : Int) < (ys.length : Int)) = true := by simp; omega
        change (bif decide ((i : Int) < (ys.length : Int)) then _ else _) = _
        rw [this, cond_true]
        obtain ⟨f, rfl⟩ : ∃ f, F = f + 3 := ⟨F - 3, by omega⟩
        rw [w_markIntA2S_l1]
        simp only [NL.list]
        rw [idx_nat (by omega)]
        rw [show (decide ((0 : Int) < 2)) = true from rfl, cond_true, Option.bind_some]
        rw [show idx [(ys[i]'(by omega)).1, (ys[i]'(by omega)).2] 0 = some (ys[i]'(by omega)).1 from rfl, Option.bind_some]
        rw [show w64 (0 + 1) = 1 from by decide, w64_id (x := k + 2 * i + 1) (by omega) (by omega)]
        simp only [NL.set2, Int.toNat_natCast]
        rw [w_markIntA2S_l1]
        simp only [NL.list]
        rw [idx_nat (by rw [set2_length]; omega)]
        rw [show (decide ((1 : Int) < 2)) = true from rfl, cond_true, Option.bind_some]
        rw [show ∀ u v : Int, idx [u, v] 1 = some v from fun _ _ => rfl, Option.bind_some]
        rw [show w64 (1 + 1) = 2 from by decide, w64_id (x := k + 2 * i + 1 + 1) (by omega) (by omega)]
        simp only [NL.set2, Int.toNat_natCast]
        rw [w_markIntA2S_l1]
        rw [show (decide ((2 : Int) < 2)) = false from rfl, cond_false, w64_succ hi (by unfold Sm; omega)]
        congr 1
        omega)
      (by
        rintro j ⟨a, b⟩ ⟨ys, rfl, h2, rfl⟩
        simp only [w_markIntA2S_l2, NL.list, h2]
        simp) F (.of xs, k) hF ⟨xs, rfl, rfl, by simp⟩
  obtain ⟨u, b⟩ := s
  simp only at h1 h4 h5
  subst h1; subst h4
  unfold w_markGraph w_markIntA2S
  rw [h5]; rfl

end Go.Zq
/- Plain mathematics: fronts, as lists of one's own. -/
namespace Go.Zq

end Go.Zq
/- Plain mathematics: the cutwidth of a layout. -/
namespace Go.Zq

end Go.Zq
/- Plain mathematics: the sizes of the fronts of a layout. -/
namespace Go.Zq

/-- the front of any list of nodes -/
theorem sFrontL_eq {F : Nat} {g : Gr} {l : List Int} (hg : good g = true) (hr : ∀ y ∈ l, 0 ≤ y ∧ y < g.1) (hlen : l.length ≤ 8) (hF : 20 ≤ F) (hG : g.2.length < F) (hs : Sm g.2.length) : s_l6Front F g l = some (listN (frt g (bq l)) g.1.toNat) := by
  have h8 := good_size hg
  let Q : Nat → Nat → Bool := fun i j => decide ((j : Int) ∈ l.take i) && anyN (fun y => adj g j y && !bq l y) g.1.toNat
  unfold s_l6Front
  refine loop_inv (L := fun k i s => s_l6Front_l2 F l g k s i) (n := l.length) (fun i s => s = listN (Q i) g.1.toNat) ?_ ?_ F _ (by omega) ?_
  · intro k i s hi hI
    subst hI
    refine ⟨_, rfl, ?_⟩
    obtain ⟨a, ha, han⟩ : ∃ a : Nat, l.getD i 0 = a ∧ a < g.1.toNat := by
      have := hr _ (getD_mem (d := 0) hi)
      exact ⟨(l.getD i 0).toNat, by omega, by omega⟩
    simp only [s_l6Front_l2]
    rw [decide_eq_true (show (i : Int) < (l.length : Int) by omega), cond_true]
    refine loop_inv (L := fun k2 y s => s_l6Front_l1 F l g (i : Int) (s_l6Front_l2 F l g k) k2 s y) (n := g.1.toNat) (fun y s => s = listN (fun j => Q i j || (j == a && anyN (fun y => adj g a y && !bq l y) y)) g.1.toNat) ?_ ?_ F _ (by omega) ?_
    · intro k2 y s hy hI
      subst hI
      refine ⟨_, rfl, ?_⟩
      simp only [s_l6Front_l1, s_l6Front_j1, s_l6Front_j2]
      rw [decide_eq_true (show (y : Int) < g.1 by omega), cond_true, idx_getD (d := 0) hi, Option.bind_some, Option.bind_some, ha, near_eq hG hs, Option.bind_some, l1Has_eq (by omega) (by unfold Sm; omega), show decide ((y : Int) ∈ l) = bq l y from rfl, Option.bind_some, put_eq (by omega) han (by omega), Option.bind_some, w64_succ hy (by unfold Sm; omega)]
      have hsame : (adj g a y && !bq l y) = false → listN (fun j => Q i j || (j == a && anyN (fun y => adj g a y && !bq l y) (y + 1))) g.1.toNat = listN (fun j => Q i j || (j == a && anyN (fun y => adj g a y && !bq l y) y)) g.1.toNat := by
        intro h
        apply listN_congr
        intro j _
        simp only [anyN]
        rw [h, Bool.or_false]
      cases h1 : adj g a y with
      | false => rw [hsame (by rw [h1]; rfl)]; rfl
      | true =>
        rw [cond_true]
        cases h2 : bq l y with
        | true => rw [hsame (by rw [h1, h2]; rfl)]; rfl
        | false =>
          rw [Bool.not_false, cond_true]
          congr 1
          apply listN_congr
          intro j _
          simp only [anyN]
          rw [h1, h2]
          by_cases e : j = a
          · subst e; simp
          · have : (j == a) = false := by simpa using e
            rw [this]; simp
    · intro k2 s hI
      subst hI
      simp only [s_l6Front_l1]
      rw [decide_eq_false (show ¬ (g.1.toNat : Int) < g.1 by omega), cond_false, w64_succ hi (by unfold Sm; omega)]
      congr 1
      apply listN_congr
      intro j _
      have hp2 := pre_succ (x := a) hi ha j
      unfold preP at hp2
      show (Q i j || _) = Q (i + 1) j
      show (Q i j || _) = (decide ((j : Int) ∈ l.take (i + 1)) && anyN (fun y => adj g j y && !bq l y) g.1.toNat)
      rw [hp2]
      by_cases e : j = a
      · subst e
        rw [beq_self_eq_true, Bool.true_and, Bool.or_true, Bool.true_and]
        show ((_ && anyN (fun y => adj g j y && !bq l y) g.1.toNat) || _) = _
        cases anyN (fun y => adj g j y && !bq l y) g.1.toNat <;> simp
      · have : (j == a) = false := by simpa using e
        rw [this, Bool.false_and, Bool.or_false, Bool.or_false]
    · apply listN_congr
      intro j _
      simp [anyN]
  · intro k s hI
    subst hI
    simp only [s_l6Front_l2]
    rw [decide_eq_false (show ¬ (l.length : Int) < (l.length : Int) by omega), cond_false]
    congr 1
    apply listN_congr
    intro j hj
    show (decide ((j : Int) ∈ l.take l.length) && _) = _
    rw [List.take_length]
    rfl
  · have : listN (Q 0) g.1.toNat = listN (fun _ => false) g.1.toNat := by
      apply listN_congr
      intro j _
      show (decide ((j : Int) ∈ l.take 0) && _) = false
      simp
    rw [this]; simp [listN]

end Go.Zq
/- Plain mathematics: the program of a layout. -/
namespace Go.Zq

end Go.Zq
/- Plain mathematics: neighbors as lists. -/
namespace Go.Zq

end Go.Zq
/- Plain mathematics: sets that stop a fire. -/
namespace Go.Zq

theorem cnt_split {p q : Nat → Bool} : ∀ n, cntN p n = cntN (fun j => q j && p j) n + cntN (fun j => p j && !q j) n := by
  intro n
  rw [cnt_sum, cnt_sum, cnt_sum, ← sum_add]
  refine sum_congr fun i _ => ?_
  cases p i <;> cases q i <;> rfl

end Go.Zq
/- Plain mathematics: rankings. -/
namespace Go.Zq

/-- nodes with at most a number; nodes with just this number -/
def lowP (l : List Int) (r : Int) (j : Nat) : Bool := decide (l.getD j 0 ≤ r)
/-- a node of the same number is met -/
def meets (g : Gr) (l : List Int) (x : Nat) : Bool := anyN (fun y => comp g (lowP l (l.getD x 0)) x y && ((y != x) && (l.getD y 0 == l.getD x 0))) g.1.toNat

end Go.Zq
/- Plain mathematics: cliques; perfect eliminations. -/
namespace Go.Zq

theorem fst_eq {P : Nat → Bool} {n a : Nat} (ha : a < n) (h : P a = true) (hm : ∀ j, j < a → P j = false) : fstN P n = some a := by
  cases hf : fstN P n with
  | none => rw [fst_none.1 hf a ha] at h; cases h
  | some b =>
    obtain ⟨hb, hPb, hmb⟩ := fst_some hf
    congr 1
    rcases Nat.lt_trichotomy a b with h1 | h1 | h1
    · rw [hmb a h1] at h; cases h
    · exact h1.symm
    · rw [hm b h1] at hPb; cases hPb

theorem first_listN {p q : Nat → Bool} {n : Nat} : fstN (fun j => p j && q j) n = (fstN (fun i => q ((listN p n).getD i 0).toNat) (listN p n).length).map fun i => ((listN p n).getD i 0).toNat := by
  cases hf : fstN (fun i => q ((listN p n).getD i 0).toNat) (listN p n).length with
  | none =>
    rw [Option.map_none, fst_none]
    intro j hj
    cases hp : p j with
    | false => rfl
    | true =>
      have hm : (j : Int) ∈ listN p n := listN_mem.2 ⟨j, rfl, hj, hp⟩
      obtain ⟨i, hi, e⟩ := List.getElem_of_mem hm
      have := fst_none.1 hf i hi
      rw [List.getD_eq_getElem?_getD, List.getElem?_eq_getElem hi, Option.getD_some, e, Int.toNat_natCast] at this
      rw [this]; rfl
  | some i =>
    obtain ⟨hi, hq, hm⟩ := fst_some hf
    obtain ⟨a, ha, han, hap⟩ := listN_get hi
    rw [Option.map_some, ha, Int.toNat_natCast]
    rw [ha, Int.toNat_natCast] at hq
    refine fst_eq han (by rw [hap, hq]; rfl) ?_
    intro j hj
    cases hp : p j with
    | false => rfl
    | true =>
      have hm2 : (j : Int) ∈ listN p n := listN_mem.2 ⟨j, rfl, by omega, hp⟩
      obtain ⟨t, ht, e⟩ := List.getElem_of_mem hm2
      have e2 : (listN p n).getD t 0 = (j : Int) := by rw [List.getD_eq_getElem?_getD, List.getElem?_eq_getElem ht, Option.getD_some, e]
      have hlt : t < i := by
        rcases Nat.lt_trichotomy t i with h1 | h1 | h1
        · exact h1
        · subst h1; rw [ha] at e2; omega
        · have := srt_lt listN_srt h1 ht
          rw [ha, e2] at this; omega
      have := hm t hlt
      rw [e2, Int.toNat_natCast] at this
      rw [this]; rfl

end Go.Zq
/- Plain mathematics: the cost of a cut over sets, greedy orders. -/
namespace Go.Zq

theorem orbit {m x : Nat} : (fun j => m.testBit j || j == x) = (m ||| 2 ^ x).testBit := by
  funext j
  rw [Nat.testBit_or, Nat.testBit_two_pow]
  by_cases e : x = j
  · subst e; simp
  · have h1 : decide (x = j) = false := by simpa using e
    have h2 : (j == x) = false := by simp; omega
    rw [h1, h2]

/-- a loop that ends at the first index with a property -/
theorem loop_fst {β : Type} {L : Nat → Int → Option β} {n x : Nat} {p : Nat → Bool} {r : Option β} (hf : fstN p n = some x) (hs : ∀ k i, i < n → p i = false → L (k + 1) (i : Int) = L k ((i + 1 : Nat) : Int)) (hx : ∀ k, L (k + 1) (x : Int) = r) : ∀ k, n < k → L k 0 = r := by
  obtain ⟨h1, _, h3⟩ := fst_some hf
  have key : ∀ d i k, i + d = x → d < k → L k (i : Int) = r := by
    intro d
    induction d with
    | zero =>
      intro i k hi hk
      obtain ⟨k, rfl⟩ : ∃ k', k = k' + 1 := ⟨k - 1, by omega⟩
      obtain rfl : i = x := by omega
      exact hx k
    | succ d ih =>
      intro i k hi hk
      obtain ⟨k, rfl⟩ : ∃ k', k = k' + 1 := ⟨k - 1, by omega⟩
      rw [hs k i (by omega) (h3 i (by omega))]
      exact ih (i + 1) k (by omega) (by omega)
  intro k hk
  exact key x 0 k (by omega) (by omega)


/-- a greedy order: ever the first node that may follow -/
inductive Grd (n : Nat) (p : Nat → Nat → Bool) : Nat → Nat → List Int → Prop
  | done : Grd n p 0 (2 ^ n - 1) []
  | step {d m x : Nat} {l : List Int} : m < 2 ^ n → fstN (fun y => !m.testBit y && p m y) n = some x → Grd n p d (m ||| 2 ^ x) l → Grd n p (d + 1) m ((x : Int) :: l)
theorem grd_len {n : Nat} {p : Nat → Nat → Bool} {d m : Nat} {l : List Int} (h : Grd n p d m l) : l.length = d := by
  induction h with
  | done => rfl
  | step _ _ _ ih => rw [List.length_cons, ih]

theorem cnt_miss {n m x : Nat} (hx : x < n) (hb : m.testBit x = false) : cntN (fun j => !(m ||| 2 ^ x).testBit j) n + 1 = cntN (fun j => !m.testBit j) n := by
  have h1 := cnt_split (p := fun j => !m.testBit j) (q := fun j => j == x) n
  have h2 : cntN (fun j => !m.testBit j && !(j == x)) n = cntN (fun j => !(m ||| 2 ^ x).testBit j) n := by
    refine cnt_congr fun j _ => ?_
    rw [← orbit]
    show (!m.testBit j && !(j == x)) = !(m.testBit j || j == x)
    cases m.testBit j <;> cases (j == x) <;> rfl
  have h3 : cntN (fun j => (j == x) && !m.testBit j) n = 1 := by
    have key : ∀ k, cntN (fun j => (j == x) && !m.testBit j) k = if x < k then 1 else 0 := by
      intro k
      induction k with
      | zero => rfl
      | succ k ih =>
        have hs : cntN (fun j => (j == x) && !m.testBit j) (k + 1) = cntN (fun j => (j == x) && !m.testBit j) k + if ((k == x) && !m.testBit k) then 1 else 0 := by
          rw [cnt_sum, cnt_sum]; rfl
        rw [hs, ih]
        by_cases e : k = x
        · have h1 : ¬ x < k := by omega
          have h2 : x < k + 1 := by omega
          simp [e, h1, h2, hb]
        · have h1 : (k == x) = false := by simpa using e
          by_cases h : x < k
          · have h2 : x < k + 1 := by omega
            simp [h1, h, h2]
          · have h2 : ¬ x < k + 1 := by omega
            simp [h1, h, h2]
    rw [key, if_pos hx]
  omega

end Go.Zq
/- Plain mathematics: the first best order for a cost (frontSize). -/
namespace Go.Zq

theorem first_frontSize {F : Nat} {g : Gr} {best : List Int} (hg : good g = true) (hF : 300 ≤ F) (hb : best.length = 2 ^ g.1.toNat) :
    ∀ {d m : Nat} {l : List Int}, Grd g.1.toNat (fun m x => decide (max (frP g m x) (best.getD (m ||| 2 ^ x) 0) ≤ best.getD 0 0)) d m l →
    ∀ (o : NL Int) (k : Nat), d < k → o.list.length + d ≤ 100 → ∃ o', i_net_firstOrder_of_i_net_frontSize_o_l2 F best ⟨(⟨nearL g⟩, ()), ()⟩ ⟨nearL g⟩ k o (m : Int) = some o' ∧ o'.list = o.list ++ l := by
  have h8 := good_size hg
  obtain ⟨n, hn⟩ : ∃ n : Nat, g.1.toNat = n := ⟨_, rfl⟩
  have hn8 : n ≤ 8 := by omega
  have hpow := Nat.two_pow_pos n
  have hp256 := pow256 hn8
  have hall : i_net_all F ⟨nearL g⟩ = some ((2 ^ n - 1 : Nat) : Int) := by
    unfold i_net_all
    rw [nearL_len, hn, one_shl (by omega), Option.bind_some, w64_id (by omega) (by omega)]
    congr 1; omega
  rw [hn] at hb ⊢
  intro d m l h
  induction h with
  | done =>
    intro o k hk _
    obtain ⟨k, rfl⟩ : ∃ k', k = k' + 1 := ⟨k - 1, by omega⟩
    refine ⟨o, ?_, by simp⟩
    simp only [i_net_firstOrder_of_i_net_frontSize_o_l2]
    rw [hall, Option.bind_some, bne_self_eq_false, cond_false]
  | step hm hf hgrd ih =>
    rename_i d m x l
    intro o k hk ho
    obtain ⟨k, rfl⟩ : ∃ k', k = k' + 1 := ⟨k - 1, by omega⟩
    obtain ⟨hx, hp, _⟩ := fst_some hf
    simp only [Bool.and_eq_true, Bool.not_eq_true', decide_eq_true_eq] at hp
    obtain ⟨hxb, hle⟩ := hp
    have hmf : m ≠ 2 ^ n - 1 := by
      rintro rfl
      rw [Nat.testBit_two_pow_sub_one, decide_eq_true hx] at hxb; cases hxb
    have hmk : iandNot .i64 ((2 ^ n - 1 : Nat) : Int) (m : Int) = ((mkm (fun x => !m.testBit x) n : Nat) : Int) := by
      obtain ⟨c, hc, _, hb⟩ := iandNot_nat (a := 2 ^ n - 1) (b := m) (by omega) (by omega)
      rw [hc]
      congr 1
      refine mkm_of fun j => ?_
      rw [hb, Nat.testBit_two_pow_sub_one]
    have hl8 : (outs n m).length ≤ 8 := by unfold outs; rw [listN_len]; exact Nat.le_trans cnt_le hn8
    obtain ⟨o', ho1, ho2⟩ := ih (.of (o.list ++ [(x : Int)])) k (by omega) (by show (o.list ++ [(x : Int)]).length + d ≤ 100; rw [List.length_append, List.length_singleton]; omega)
    refine ⟨o', ?_, by rw [ho2]; simp [NL.list]⟩
    have hne : (((m : Int)) != ((2 ^ n - 1 : Nat) : Int)) = true := by rw [bne_iff_ne]; omega
    simp only [i_net_firstOrder_of_i_net_frontSize_o_l2]
    rw [hall, Option.bind_some, hne, cond_true, Option.bind_some, hmk, setOf_eq hn8 (by omega), Option.bind_some]
    rw [first_listN, Option.map_eq_some_iff] at hf
    obtain ⟨i, hi, hix⟩ := hf
    have hil := (fst_some hi).1
    have hstep : ∀ (i : Nat) (hi : i < (outs n m).length), ∃ y : Nat, (outs n m).getD i 0 = y ∧ y < n ∧ i_net_frontSize F ⟨nearL g⟩ (m : Int) (y : Int) = some (frP g m y) ∧ shlI .i64 1 (y : Int) = some ((2 ^ y : Nat) : Int) ∧ ior .i64 (m : Int) ((2 ^ y : Nat) : Int) = ((m ||| 2 ^ y : Nat) : Int) ∧ idx best (((m ||| 2 ^ y : Nat)) : Int) = some (best.getD (m ||| 2 ^ y) 0) := by
      intro i hi
      obtain ⟨y, hy, hyn, hyb⟩ := outs_mem.1 (getD_mem (d := 0) hi)
      have := or_lt hm hyn
      exact ⟨y, hy, hyn, frontSizeP hg (by omega) (by rw [hn]; exact hm) (by rw [hn]; exact hyn), one_shl (by omega), ior_nat (by omega) (pow_lt (by omega)), idx_getD (by omega)⟩
    have hz : idx best 0 = some (best.getD 0 0) := idx_getD (xs := best) (i := 0) (d := 0) (by omega)
    have hmax : ∀ a b : Int, (if b > a then b else a) = max a b := by
      intro a b
      by_cases h : b > a
      · rw [if_pos h, Int.max_eq_right (by omega)]
      · rw [if_neg h, Int.max_eq_left (by omega)]
    refine loop_fst (L := fun k2 i => i_net_firstOrder_of_i_net_frontSize_o_l1 F best ⟨(⟨nearL g⟩, ()), ()⟩ ⟨nearL g⟩ o (m : Int) (outs n m) (i_net_firstOrder_of_i_net_frontSize_o_l2 F best ⟨(⟨nearL g⟩, ()), ()⟩ ⟨nearL g⟩ k) k2 i) hi ?_ ?_ F (by show (outs n m).length < F; omega)
    · intro k2 i hi hpi
      obtain ⟨y, hy, hyn, y1, y2, y3, y4⟩ := hstep i hi
      have hpi : decide (max (frP g m ((outs n m).getD i 0).toNat) (best.getD (m ||| 2 ^ ((outs n m).getD i 0).toNat) 0) ≤ best.getD 0 0) = false := hpi
      rw [hy, Int.toNat_natCast] at hpi
      simp only [i_net_firstOrder_of_i_net_frontSize_o_l1]
      rw [decide_eq_true (show (i : Int) < ((outs n m).length : Int) from by have : i < (outs n m).length := hi; omega), cond_true, idx_getD (xs := outs n m) (d := 0) hi, Option.bind_some, hy, y1, Option.bind_some, y2, Option.bind_some, y3, y4, Option.bind_some, hz, Option.bind_some, hmax, hpi, cond_false, w64_succ (n := (outs n m).length) hi (by have : (listN (fun x => !m.testBit x) n).length ≤ 8 := hl8; unfold Sm; omega)]
    · intro k2
      obtain ⟨y, hy, hyn, y1, y2, y3, y4⟩ := hstep i hil
      have hyx : y = x := by
        have e : ((outs n m).getD i 0).toNat = x := hix
        rw [hy] at e; omega
      subst hyx
      have hle' : decide (max (frP g m y) (best.getD (m ||| 2 ^ y) 0) ≤ best.getD 0 0) = true := decide_eq_true hle
      simp only [i_net_firstOrder_of_i_net_frontSize_o_l1]
      rw [decide_eq_true (show (i : Int) < ((outs n m).length : Int) from by have : i < (outs n m).length := hil; omega), cond_true, idx_getD (xs := outs n m) (d := 0) hil, Option.bind_some, hy, y1, Option.bind_some, y2, Option.bind_some, y3, y4, Option.bind_some, hz, Option.bind_some, hmax, hle', cond_true, appL_one (by omega), Option.bind_some, Option.bind_some]
      rw [y3]
      exact ho1

end Go.Zq
/- Plain mathematics: the best layout. -/
namespace Go.Zq

theorem own_o {F : Nat} {l : List Int} (hl : l.length ≤ 1000) : s_l1Own_o F l = some (.of l) := by
  unfold s_l1Own_o appL
  rw [if_pos (by
    have : (2 : Nat) ^ 40 = 1099511627776 := by decide
    simp only [List.length_nil]
    omega)]
  rfl

theorem frt_empty {g : Gr} {p : Nat → Bool} (h : ∀ j, p j = false) : listN (frt g p) g.1.toNat = [] := by
  rw [List.eq_nil_iff_forall_not_mem]
  intro y hy
  obtain ⟨x, _, _, hb⟩ := listN_mem.1 hy
  unfold frt at hb
  rw [h x] at hb; cases hb

theorem search_eq {F : Nat} {g : Gr} {T : Nat → Int} {t : Int} (hg : good g = true) (hF : 300 ≤ F) (hG : g.2.length < F) (hs : Sm g.2.length) (hT : IsBack g.1.toNat (frP g) 0 T) (ht : 0 ≤ t) :
    ∀ d (m : Nat) (begun : List Int) (k : Nat), m < 2 ^ g.1.toNat → bq begun = m.testBit → (∀ y ∈ begun, 0 ≤ y ∧ y < g.1) → begun.length + d = g.1.toNat → cntN (fun j => !m.testBit j) g.1.toNat = d → d < k →
      (frC g m ≤ t → T m ≤ t → ∃ l, Grd g.1.toNat (fun m x => decide (max (frP g m x) (T (m ||| 2 ^ x)) ≤ t)) d m l ∧ s_l6Search_r F k g begun t = some (begun ++ l, true)) ∧
      (¬ (frC g m ≤ t ∧ T m ≤ t) → s_l6Search_r F k g begun t = some ([], false)) := by
  have h8 := good_size hg
  obtain ⟨n, hn⟩ : ∃ n : Nat, g.1.toNat = n := ⟨_, rfl⟩
  have hn8 : n ≤ 8 := by omega
  have hgn : g.1 = (n : Int) := by omega
  have hpow := Nat.two_pow_pos n
  have hp256 := pow256 hn8
  rw [hn] at hT ⊢
  intro d
  induction d with
  | zero =>
    intro m begun k hm hbm hr hlen hc hk
    obtain ⟨k, rfl⟩ : ∃ k', k = k' + 1 := ⟨k - 1, by omega⟩
    have hfull : m = 2 ^ n - 1 := full_of hm fun x hx => by
      rw [cnt_zero, fst_none] at hc
      have := hc x hx
      simpa using this
    have hTm : T m ≤ t := by
      rw [hT m hm, (outs_nil hm).2 hfull, mn_nil]; exact ht
    have hfr : s_l6Front F g begun = some (listN (frt g m.testBit) n) := by
      have := sFrontL_eq (F := F) (l := begun) hg hr (by omega) (by omega) hG hs
      rw [hbm, hn] at this; exact this
    have hfc : ((listN (frt g m.testBit) n).length : Int) = frC g m := by unfold frC; rw [listN_len, hn]
    show (_ → _ → ∃ l, _ ∧ s_l6Search_b F (s_l6Search_r F k) g begun t = _) ∧ (_ → s_l6Search_b F (s_l6Search_r F k) g begun t = _)
    unfold s_l6Search_b
    rw [hfr, Option.bind_some, hfc]
    constructor
    · intro h1 _
      refine ⟨[], by rw [hfull]; exact .done, ?_⟩
      have : ((begun.length : Int) == g.1) = true := by rw [beq_iff_eq]; omega
      rw [decide_eq_false (by omega), cond_false, this, cond_true, List.append_nil]
    · intro h
      have h1 : frC g m > t := by
        by_cases h2 : frC g m ≤ t
        · exact absurd ⟨h2, hTm⟩ h
        · omega
      rw [decide_eq_true h1, cond_true]
  | succ d ih =>
    intro m begun k hm hbm hr hlen hc hk
    obtain ⟨k, rfl⟩ : ∃ k', k = k' + 1 := ⟨k - 1, by omega⟩
    have hfr : s_l6Front F g begun = some (listN (frt g m.testBit) n) := by
      have := sFrontL_eq (F := F) (l := begun) hg hr (by omega) (by omega) hG hs
      rw [hbm, hn] at this; exact this
    have hfc : ((listN (frt g m.testBit) n).length : Int) = frC g m := by unfold frC; rw [listN_len, hn]
    have hfull : m ≠ 2 ^ n - 1 := by
      intro e
      have : cntN (fun j => !m.testBit j) n = 0 := by
        rw [cnt_zero, fst_none]
        intro j hj
        rw [e, Nat.testBit_two_pow_sub_one, decide_eq_true hj]; rfl
      omega
    have hne : outs n m ≠ [] := fun e => hfull ((outs_nil hm).1 e)
    have hnx : ∀ x : Nat, x < n → m.testBit x = false →
        (frC g (m ||| 2 ^ x) ≤ t → T (m ||| 2 ^ x) ≤ t → ∃ l, Grd n (fun m x => decide (max (frP g m x) (T (m ||| 2 ^ x)) ≤ t)) d (m ||| 2 ^ x) l ∧ s_l6Search_r F k g (begun ++ [(x : Int)]) t = some ((begun ++ [(x : Int)]) ++ l, true)) ∧
        (¬ (frC g (m ||| 2 ^ x) ≤ t ∧ T (m ||| 2 ^ x) ≤ t) → s_l6Search_r F k g (begun ++ [(x : Int)]) t = some ([], false)) := by
      intro x hx hb
      refine ih (m ||| 2 ^ x) (begun ++ [(x : Int)]) k (or_lt hm hx) ?_ ?_ (by rw [List.length_append, List.length_singleton]; omega) (by have := cnt_miss hx hb; omega) (by omega)
      · rw [← orbit, ← hbm]
        funext j
        unfold bq
        simp only [List.mem_append, List.mem_singleton, Bool.decide_or]
        congr 1
        by_cases e : j = x
        · subst e; simp
        · have h1 : ¬ ((j : Int) = (x : Int)) := by omega
          have h2 : (j == x) = false := by simpa using e
          rw [decide_eq_false h1, h2]
      · intro y hy
        rcases List.mem_append.1 hy with h | h
        · exact hr y h
        · obtain rfl : y = (x : Int) := by simpa using h
          omega
    have hTm : T m ≤ t ↔ ∃ x, fstN (fun y => !m.testBit y && decide (max (frP g m y) (T (m ||| 2 ^ y)) ≤ t)) n = some x := by
      rw [hT m hm, mn_le hne]
      constructor
      · rintro ⟨y, hy, h⟩
        obtain ⟨z, rfl, hz, hzb⟩ := outs_mem.1 hy
        rw [Int.toNat_natCast] at h
        cases hfs : fstN (fun y => !m.testBit y && decide (max (frP g m y) (T (m ||| 2 ^ y)) ≤ t)) n with
        | none =>
          have := fst_none.1 hfs z hz
          rw [hzb, decide_eq_true h] at this; cases this
        | some x => exact ⟨x, rfl⟩
      · rintro ⟨x, hx⟩
        obtain ⟨h1, h2, _⟩ := fst_some hx
        simp only [Bool.and_eq_true, Bool.not_eq_true', decide_eq_true_eq] at h2
        exact ⟨(x : Int), outs_mem.2 ⟨x, rfl, h1, h2.1⟩, by rw [Int.toNat_natCast]; exact h2.2⟩
    have hin : ∀ x : Nat, s_l1Has F begun (x : Int) = some (m.testBit x) := by
      intro x
      rw [l1Has_eq (by omega) (by unfold Sm; omega), ← hbm]; rfl
    have hskip : ∀ k2 x, x < n → (!m.testBit x && decide (max (frP g m x) (T (m ||| 2 ^ x)) ≤ t)) = false → s_l6Search_l1 F (s_l6Search_r F k) begun t g (k2 + 1) (x : Int) = s_l6Search_l1 F (s_l6Search_r F k) begun t g k2 ((x + 1 : Nat) : Int) := by
      intro k2 x hx hp
      simp only [s_l6Search_l1]
      rw [hgn, decide_eq_true (show (x : Int) < (n : Int) by omega), cond_true, hin, Option.bind_some, w64_succ hx (by unfold Sm; omega)]
      cases hb : m.testBit x with
      | true => rfl
      | false =>
        rw [hb, Bool.not_false, Bool.true_and, decide_eq_false_iff_not, Int.max_le] at hp
        rw [cond_false, own_o (by omega), Option.bind_some]
        show ((appL begun [(x : Int)]).bind _) = _
        rw [appL_one (by omega), Option.bind_some, (hnx x hx hb).2 hp, Option.bind_some]
        rfl
    show (_ → _ → ∃ l, _ ∧ s_l6Search_b F (s_l6Search_r F k) g begun t = _) ∧ (_ → s_l6Search_b F (s_l6Search_r F k) g begun t = _)
    unfold s_l6Search_b
    rw [hfr, Option.bind_some, hfc]
    have hb0 : ((begun.length : Int) == g.1) = false := by rw [beq_eq_false_iff_ne]; omega
    constructor
    · intro h1 h2
      obtain ⟨x, hx⟩ := hTm.1 h2
      obtain ⟨x1, x2, _⟩ := fst_some hx
      simp only [Bool.and_eq_true, Bool.not_eq_true', decide_eq_true_eq] at x2
      have x3 : frP g m x ≤ t ∧ T (m ||| 2 ^ x) ≤ t := Int.max_le.1 x2.2
      obtain ⟨l, l1, l2⟩ := (hnx x x1 x2.1).1 x3.1 x3.2
      refine ⟨(x : Int) :: l, .step hm hx l1, ?_⟩
      rw [decide_eq_false (by omega), cond_false, hb0, cond_false]
      refine loop_fst (L := fun k2 x => s_l6Search_l1 F (s_l6Search_r F k) begun t g k2 x) hx hskip ?_ F (by omega)
      intro k2
      simp only [s_l6Search_l1]
      rw [hgn, decide_eq_true (show (x : Int) < (n : Int) by omega), cond_true, hin, Option.bind_some, x2.1, cond_false, own_o (by omega), Option.bind_some]
      show ((appL begun [(x : Int)]).bind _) = _
      rw [appL_one (by omega), Option.bind_some, l2, Option.bind_some]
      simp
    · intro h
      by_cases h1 : frC g m > t
      · rw [decide_eq_true h1, cond_true]
      · rw [decide_eq_false h1, cond_false, hb0, cond_false]
        have hno : fstN (fun y => !m.testBit y && decide (max (frP g m y) (T (m ||| 2 ^ y)) ≤ t)) n = none := by
          cases hfs : fstN (fun y => !m.testBit y && decide (max (frP g m y) (T (m ||| 2 ^ y)) ≤ t)) n with
          | none => rfl
          | some x => exact absurd ⟨by omega, hTm.2 ⟨x, hfs⟩⟩ h
        refine loop_inv (L := fun k2 x (_ : Unit) => s_l6Search_l1 F (s_l6Search_r F k) begun t g k2 x) (n := n) (fun _ _ => True) ?_ ?_ F () (by omega) trivial
        · intro k2 x _ hx _
          exact ⟨(), trivial, hskip k2 x hx (fst_none.1 hno x hx)⟩
        · intro k2 _ _
          simp only [s_l6Search_l1]
          rw [hgn, decide_eq_false (show ¬ (n : Int) < (n : Int) by omega), cond_false]

theorem sPw_best {F : Nat} {g : Gr} {best : List Int} (hg : good g = true) (hF : 300 ≤ F) (hG : g.2.length < F) (hs : Sm g.2.length) (hb : best.length = 2 ^ g.1.toNat) (hT : IsBack g.1.toNat (frP g) 0 (fun m => best.getD m 0)) : s_l6Pathwidth F g = some (best.getD 0 0) := by
  have h8 := good_size hg
  have hp256 := pow256 (n := g.1.toNat) (by omega)
  have hpow := Nat.two_pow_pos g.1.toNat
  obtain ⟨out, o1, o2, o3⟩ := widths_eq hg hF hG hs
  have heq := fwd_back (n := g.1.toNat) (c := frC g) (by omega) (fun m => frC_nonneg) o3 hT
  unfold s_l6Pathwidth
  have hgn : g.1 = ((g.1.toNat : Nat) : Int) := by omega
  have hsh := one_shl (j := g.1.toNat) (by omega)
  rw [← hgn] at hsh
  rw [o1, Option.bind_some, hsh, Option.bind_some]
  have hw : w64 (((2 ^ g.1.toNat : Nat) : Int) - 1) = ((2 ^ g.1.toNat - 1 : Nat) : Int) := by rw [w64_id (by omega) (by omega)]; omega
  rw [hw, idx_getD (d := 0) (by omega), Option.bind_some, heq]

theorem exBestLayout {F : Nat} {g : Gr} (h9 : 300 ≤ F) (hG : g.2.length < F) (hs : Sm g.2.length) :
    ∃ R b o, s_BestLayout F g = some (R, b) ∧ i_BestLayout_o F g = some (o, b) ∧ o.list = R ∧ R.length ≤ 8 := by
  unfold s_BestLayout i_BestLayout_o
  rw [l2Good_eq hG hs, isGraph_eq hG (by omega) hs, Option.bind_some, Option.bind_some]
  cases hg : good g with
  | false => exact ⟨[], false, .nil, rfl, rfl, rfl, by simp⟩
  | true =>
    have h8 := good_size hg
    have hpow := Nat.two_pow_pos g.1.toNat
    have hp256 := pow256 (n := g.1.toNat) (by omega)
    rw [Bool.not_true, cond_false, cond_false]
    obtain ⟨best, b1, b2, b3⟩ := best_frontSize (F := F) (nn := 0) hg h9
    have hpw := sPw_best hg h9 hG hs b2 b3
    have hT0 : 0 ≤ best.getD 0 0 := by
      have h := b3 0 hpow
      have h : best.getD 0 0 = _ := h
      rw [h]
      by_cases he : outs g.1.toNat 0 = []
      · rw [he]; exact Int.le_refl _
      · refine mn_nonneg he fun y _ => ?_
        have := frC_nonneg (g := g) (m := 0 ||| 2 ^ y.toNat)
        have : 0 ≤ frP g 0 y.toNat := this
        show 0 ≤ max (frP g 0 y.toNat) _
        omega
    have hc0 : cntN (fun j => !(0 : Nat).testBit j) g.1.toNat = g.1.toNat := by
      have : ∀ n, cntN (fun j => !(0 : Nat).testBit j) n = n := by
        intro n
        simp [cntN]
      exact this _
    have hf0 : frC g 0 ≤ best.getD 0 0 := by
      unfold frC
      rw [← listN_len, frt_empty (fun j => Nat.zero_testBit j)]
      exact hT0
    obtain ⟨l, hl, hsr⟩ := (search_eq (F := F) (T := fun m => best.getD m 0) hg h9 hG hs b3 hT0 g.1.toNat 0 [] F hpow (by funext j; simp [bq]) (by simp) (by simp) hc0 (by omega)).1 hf0 (Int.le_refl _)
    obtain ⟨o, f1, f2⟩ := first_frontSize hg h9 b2 hl .nil F (by omega) (by show 0 + g.1.toNat ≤ 100; omega)
    refine ⟨l, true, o, ?_, ?_, ?_, by rw [grd_len hl]; omega⟩
    · rw [hpw, Option.bind_some]
      have hsr' : s_l6Search F g [] (best.getD 0 0) = some ([] ++ l, true) := hsr
      rw [hsr', Option.bind_some]
      rfl
    · rw [netOf_eq hg hG hs, Option.bind_some, b1, Option.bind_some]
      unfold i_net_firstOrder_of_i_net_frontSize_o
      have f1' : i_net_firstOrder_of_i_net_frontSize_o_l2 F best ⟨(⟨nearL g⟩, ()), ()⟩ ⟨nearL g⟩ F .nil 0 = some o := f1
      rw [f1', Option.bind_some]
    · rw [f2]; rfl

end Go.Zq
/- The law BestLayout, as a plain statement. -/
namespace Go.Zq

theorem lawBestLayout {F : Nat} {g : Gr} (hF : 2097152 ≤ F) (hg : g.2.length ≤ 9223372036854775807) : w_FnExactBestLayout F g = some true := by
  unfold w_FnExactBestLayout
  rw [szGraph_eq (by omega) (by omega) hg, Option.bind_some]
  by_cases h2 : (1048576 : Int) - g.2.length < 0
  · simp [h2]
  simp only [h2, if_false, decide_false, cond_false]
  obtain ⟨R, b, o, hs, hi, ho, hl⟩ := exBestLayout (F := F) (g := g) (by omega) (by omega) (by unfold Sm; omega)
  have e1 : w_toGraph F g = some g := toGraph_eq (by omega) (by omega) (by omega)
  have e2 : w_toGraph_o F g = some (g.1, .of g.2) := toGraph_o_eq (by omega) (by omega) (by omega)
  have e5 : w_eqIntS F o.list R = some true := by rw [ho]; exact eqIntS_eq (by omega) (by unfold Sm; omega)
  have e6 : w_eqGraph F (g.1, (NL.of g.2).list) g = some true := eqGraph_eq (g := g) (by omega) (by unfold Sm; omega) (by omega)
  have e8 : w_markGraph F ⟨g.1, .of g.2⟩ 1 = some (1 + 2 * (g.2.length : Int)) := markGraph_eq (by omega) (by omega) (by omega) (by omega) (by omega)
  have e9 : decide ((1 + 2 * (g.2.length : Int)) < 0) = false := decide_eq_false (by omega)
  obtain ⟨o2, m2, m3, m4⟩ := markIntS_eq (F := F) (o := o) (k := 1) (by rw [ho]; omega) (by rw [ho]; omega) (by omega) (by omega)
  have e10 : w_heldIntS F o2.list 1 = some (1 + (o.list.length : Int)) := by rw [m4]; exact heldIntS_eq (by rw [ho]; omega) (by rw [ho]; omega) (by omega) (by omega)
  have e11 : decide ((1 + (o.list.length : Int)) < 0) = false := decide_eq_false (by omega)
  have hi1 : i_BestLayout_o F (g.1, (NL.of g.2).list) = some (o, b) := hi
  simp only [w_FnExactBestLayout_j1, w_FnExactBestLayout_j2, w_FnExactBestLayout_j3, e1, e2, e5, e6, e8, e9, e10, e11, hs, hi, hi1, m2, m3, Option.bind_some, Bool.not_true, cond_false, bne_self_eq_false]

end Go.Zq
