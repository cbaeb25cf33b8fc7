/- Plain mathematics: what the functions answer (part 2). Conditions: stated in each theorem. -/
import Derived.Test.YtonidecbmdpfhaaM1
set_option linter.unusedVariables false
set_option linter.unusedSimpArgs false
/- Plain mathematics: steps of a search, in the reference; programs. -/
namespace Go.Zq

end Go.Zq
/- Plain mathematics: cops that stay, and treedepth. -/
namespace Go.Zq

end Go.Zq
/- Plain mathematics: parts, and what is connected. -/
namespace Go.Zq

end Go.Zq
/- Plain mathematics: lists of lists; sets as lists; loops that look for a place. -/
namespace Go.Zq

/-- a loop that looks for the first place -/
theorem loop_first {L : Nat → Int → Option Int} {n : Nat} {p : Nat → Bool} (hs : ∀ k i, i < n → L (k + 1) (i : Int) = bif p i then some (i : Int) else L k ((i + 1 : Nat) : Int)) (he : ∀ k, L (k + 1) (n : Int) = some (-1)) :
    ∀ k, n < k → ∃ r, L k 0 = some r ∧ decide (r ≥ 0) = anyN p n ∧ ∀ i, fstN p n = some i → r = i := by
  have key : ∀ d k i, i + d = n → d < k → (∀ j, j < i → p j = false) → ∃ r, L k (i : Int) = some r ∧ decide (r ≥ 0) = anyN p n ∧ ∀ i, fstN p n = some i → r = i := by
    intro d
    induction d with
    | zero =>
      intro k i hi hk hp
      obtain ⟨k, rfl⟩ : ∃ k', k = k' + 1 := ⟨k - 1, by omega⟩
      obtain rfl : i = n := by omega
      refine ⟨-1, he k, ?_, ?_⟩
      · have : anyN p i = false := by
          rw [Bool.eq_false_iff]; intro h
          obtain ⟨j, hj, h⟩ := anyN_iff.1 h
          rw [hp j hj] at h; cases h
        rw [this]; decide
      · intro j hj
        have := fst_some hj
        rw [hp j this.1] at this; cases this.2.1
    | succ d ih =>
      intro k i hi hk hp
      obtain ⟨k, rfl⟩ : ∃ k', k = k' + 1 := ⟨k - 1, by omega⟩
      rw [hs k i (by omega)]
      cases hpi : p i with
      | true =>
        refine ⟨i, by rw [cond_true], ?_, ?_⟩
        · rw [anyN_iff.2 ⟨i, by omega, hpi⟩]; simp
        · intro j hj
          obtain ⟨h1, h2, h3⟩ := fst_some hj
          have a1 : ¬ i < j := fun h => by rw [h3 i h] at hpi; cases hpi
          have a2 : ¬ j < i := fun h => by rw [hp j h] at h2; cases h2
          omega
      | false =>
        rw [cond_false]
        refine ih k (i + 1) (by omega) (by omega) ?_
        intro j hj
        by_cases e : j = i
        · subst e; exact hpi
        · exact hp j (by omega)
  intro k hk
  exact key n k 0 (by omega) hk (fun j hj => absurd hj (by omega))

-- lists of lists
def sumL (xs : List (List Int)) : Nat → Nat
  | 0 => 0
  | i + 1 => sumL xs i + (xs.getD i []).length
theorem sumL_mono {xs : List (List Int)} : ∀ {i j : Nat}, i ≤ j → sumL xs i ≤ sumL xs j
  | i, 0, h => by obtain rfl : i = 0 := by omega
                  exact Nat.le_refl _
  | i, j + 1, h => by
    by_cases e : i = j + 1
    · subst e; exact Nat.le_refl _
    · have := sumL_mono (xs := xs) (i := i) (j := j) (by omega)
      simp only [sumL]; omega
theorem sumL_le {xs : List (List Int)} {i : Nat} (h : i < xs.length) : (xs.getD i []).length ≤ sumL xs xs.length := by
  have := sumL_mono (xs := xs) (i := i + 1) (j := xs.length) (by omega)
  simp only [sumL] at this; omega

end Go.Zq
/- Plain mathematics: least values over lists; tables over sets, from below and from above. -/
namespace Go.Zq


end Go.Zq
/- Plain mathematics: fronts. -/
namespace Go.Zq

theorem mkm_self {n m : Nat} (h : m < 2 ^ n) : mkm m.testBit n = m := by
  symm
  refine mkm_of fun j => ?_
  by_cases hj : j < n
  · rw [decide_eq_true hj, Bool.true_and]
  · rw [decide_eq_false hj, Bool.false_and]
    exact Nat.testBit_lt_two_pow (Nat.lt_of_lt_of_le h (Nat.pow_le_pow_right (by decide) (by omega)))

end Go.Zq
/- Plain mathematics: path decompositions. -/
namespace Go.Zq

structure Bg (F : Nat) (bags : List (List Int)) : Prop where
  len : bags.length ≤ 1048576
  each : ∀ x ∈ bags, x.length ≤ 1048576
  fuel : 1048577 ≤ F

theorem Bg.at {F : Nat} {bags : List (List Int)} (h : Bg F bags) {i : Nat} (hi : i < bags.length) : (bags.getD i []).length ≤ 1048576 := h.each _ (getD_mem hi)

theorem Bg.of {F : Nat} {bags : List (List Int)} (h : bags.length + sumL bags bags.length ≤ 1048576) (hF : 1048577 ≤ F) : Bg F bags := by
  refine ⟨by omega, fun x hx => ?_, hF⟩
  obtain ⟨i, hi, e⟩ := List.mem_iff_getElem.1 hx
  have := sumL_le hi
  rw [List.getD_eq_getElem?_getD, List.getElem?_eq_getElem hi, Option.getD_some, e] at this
  omega
end Go.Zq
/- Plain mathematics: sets of nodes as lists and as numbers; brambles. -/
namespace Go.Zq

end Go.Zq
/- Plain mathematics: own copies of arguments; lists that are marked. -/
namespace Go.Zq

theorem toIntA2S_o_eq {F : Nat} {xs : List (Int × Int)} (hF : xs.length < F) (hl : xs.length ≤ 1099511627776) (h3 : 3 ≤ F) : w_toIntA2S_o F xs = some (.of xs) := by
  unfold w_toIntA2S_o
  rw [mkN_nat hl, Option.bind_some]
  refine loop_inv (L := fun k i s => w_toIntA2S_o_l1 F xs k s i) (n := xs.length) (fun i ys => ys.length = xs.length ∧ ys.take i = xs.take i) ?_ ?_ F _ hF (by simp)
  · intro k i s hi hI
    refine ⟨_, copied hI hi, ?_⟩
    simp only [w_toIntA2S_o_l1]
    rw [idx_nat hi, idx_nat (by omega), w64_succ hi (by unfold Sm; omega)]
    simp [hi, toIntA2_eq h3]
  · intro k s hI
    simp only [w_toIntA2S_o_l1]
    rw [copied_end hI]; simp

theorem toGraph_o_eq {F : Nat} {g : Int × List (Int × Int)} (hF : g.2.length < F) (hl : g.2.length ≤ 1099511627776) (h3 : 3 ≤ F) : w_toGraph_o F g = some (g.1, .of g.2) := by
  unfold w_toGraph_o
  rw [toIntA2S_o_eq hF hl h3]; rfl

/-- what a marked list is -/
def mkd (n : Nat) (k : Int) : List Int := (List.range n).map fun (i : Nat) => k + (i : Int)
theorem mkd_length {n : Nat} {k : Int} : (mkd n k).length = n := by simp [mkd]
theorem mkd_get {n i : Nat} {k : Int} (h : i < n) : idx (mkd n k) (i : Int) = some (k + i) := by
  rw [idx_nat (by rw [mkd_length]; exact h)]
  simp [mkd]

theorem markIntS_eq {F : Nat} {o : NL Int} {k : Int} (hF : o.list.length < F) (hl : o.list.length ≤ 1099511627776) (h0 : 0 ≤ k) (hk : k ≤ 4611686018427387904) :
    ∃ o', w_markIntS F ⟨o⟩ k = some (k + o.list.length, o') ∧ remark o o' = some o' ∧ o'.list = mkd o.list.length k := by
  cases o with
  | nil =>
    obtain ⟨j, rfl⟩ : ∃ j, F = j + 1 := ⟨F - 1, by omega⟩
    exact ⟨.nil, by simp [w_markIntS, w_markIntS_l1, NL.list], rfl, by simp [NL.list, mkd]⟩
  | of xs =>
    simp only [NL.list] at hF hl ⊢
    obtain ⟨s, ⟨ys, h1, h2, h3, h4⟩, h5⟩ := loop_ex (L := fun j i (s : NL Int × Int) => w_markIntS_l1 F j s.1 s.2 i) (n := xs.length) (fin := fun s => some (s.2, s.1))
      (fun i s => ∃ ys : List Int, s.1 = .of ys ∧ ys.length = xs.length ∧ s.2 = k + i ∧ ∀ j, j < i → ys[j]? = some (k + (j : Int)))
      (by
        rintro j i ⟨a, b⟩ hi ⟨ys, rfl, h2, rfl, h4⟩
        refine ⟨(.of (ys.set i (k + i)), k + ((i + 1 : Nat) : Int)), ⟨_, rfl, by simp [h2], rfl, ?_⟩, ?_⟩
        · intro m hm
          rw [List.getElem?_set]
          by_cases e : i = m
          · subst e; simp [h2, hi]
          · simp only [e, if_false]; exact h4 m (by omega)
        · simp only [w_markIntS_l1, NL.list]
          have : decide ((i : Int) < (ys.length : Int)) = true := by simp; omega
          change (bif decide ((i : Int) < (ys.length : Int)) then _ else _) = _
          rw [this, cond_true, idx_nat (by omega), Option.bind_some, w64_succ hi (by unfold Sm; omega), w64_id (x := k + i + 1) (by omega) (by omega)]
          simp only [NL.set, Int.toNat_natCast]
          congr 1
          omega)
      (by
        rintro j ⟨a, b⟩ ⟨ys, rfl, h2, rfl, h4⟩
        simp only [w_markIntS_l1, NL.list, h2]
        simp) F (.of xs, k) hF ⟨xs, rfl, rfl, by simp, by simp⟩
    obtain ⟨a, b⟩ := s
    simp only at h1 h3 h5
    subst h1; subst h3
    refine ⟨.of ys, ?_, by simp [remark, h2], ?_⟩
    · unfold w_markIntS; exact h5
    · simp only [NL.list]
      apply List.ext_getElem?
      intro i
      by_cases hi : i < xs.length
      · rw [h4 i hi]; simp [mkd, hi]
      · rw [List.getElem?_eq_none (by omega), List.getElem?_eq_none (by rw [mkd_length]; omega)]

theorem heldIntS_eq {F n : Nat} {k : Int} (hF : n < F) (hl : n ≤ 1099511627776) (h0 : 0 ≤ k) (hk : k ≤ 4611686018427387904) : w_heldIntS F (mkd n k) k = some (k + n) := by
  unfold w_heldIntS
  refine loop_inv (L := fun j i s => w_heldIntS_l1 F (mkd n k) j s i) (n := n) (fun i s => s = k + (i : Int)) ?_ ?_ F _ hF (by simp)
  · rintro j i s hi rfl
    refine ⟨_, rfl, ?_⟩
    simp only [w_heldIntS_l1, mkd_length]
    have : decide ((i : Int) < (n : Int)) = true := by simpa using hi
    rw [this, cond_true, mkd_get hi, Option.bind_some, w64_succ hi (by unfold Sm; omega), w64_id (x := k + i + 1) (by omega) (by omega)]
    simp only [bne_self_eq_false, cond_false]
    congr 1
    omega
  · rintro j s rfl
    simp only [w_heldIntS_l1, mkd_length]
    simp

theorem set2_length {α : Type} {xs : List (α × α)} {i : Nat} {j : Int} {b : α} : (set2 xs i j b).length = xs.length := by
  unfold set2
  split <;> simp

theorem markGraph_eq {F : Nat} {a : Int} {xs : List (Int × Int)} {k : Int} (hF : xs.length < F) (h3 : 3 ≤ F) (hl : xs.length ≤ 1099511627776) (h0 : 0 ≤ k) (hk : k ≤ 4611686018427387904) :
    w_markGraph F ⟨a, .of xs⟩ k = some (k + 2 * xs.length) := by
  obtain ⟨s, ⟨ys, h1, h2, h4⟩, h5⟩ := loop_ex (L := fun j i (s : NL (Int × Int) × Int) => w_markIntA2S_l2 F j s.1 s.2 i) (n := xs.length) (fin := fun s => some (s.2, s.1))
      (fun i s => ∃ ys : List (Int × Int), s.1 = .of ys ∧ ys.length = xs.length ∧ s.2 = k + 2 * (i : Int))
      (by
        rintro j i ⟨a, b⟩ hi ⟨ys, rfl, h2, rfl⟩
        refine ⟨(.of (set2 (set2 ys i 0 (k + 2 * i)) i 1 (k + 2 * i + 1)), k + 2 * ((i + 1 : Nat) : Int)), ⟨_, rfl, by simp [set2_length, h2], rfl⟩, ?_⟩
        simp only [w_markIntA2S_l2, NL.list]
        have : decide ((i : Int) < (ys.length : Int)) = true := by simp; omega
        change (bif decide ((i : Int) < (ys.length : Int)) then _ else _) = _
        rw [this, cond_true]
        obtain ⟨f, rfl⟩ : ∃ f, F = f + 3 := ⟨F - 3, by omega⟩
        rw [w_markIntA2S_l1]
        simp only [NL.list]
        rw [idx_nat (by omega)]
        rw [show (decide ((0 : Int) < 2)) = true from rfl, cond_true, Option.bind_some]
        rw [show idx [(ys[i]'(by omega)).1, (ys[i]'(by omega)).2] 0 = some (ys[i]'(by omega)).1 from rfl, Option.bind_some]
        rw [show w64 (0 + 1) = 1 from by decide, w64_id (x := k + 2 * i + 1) (by omega) (by omega)]
        simp only [NL.set2, Int.toNat_natCast]
        rw [w_markIntA2S_l1]
        simp only [NL.list]
        rw [idx_nat (by rw [set2_length]; omega)]
        rw [show (decide ((1 : Int) < 2)) = true from rfl, cond_true, Option.bind_some]
        rw [show ∀ u v : Int, idx [u, v] 1 = some v from fun _ _ => rfl, Option.bind_some]
        rw [show w64 (1 + 1) = 2 from by decide, w64_id (x := k + 2 * i + 1 + 1) (by omega) (by omega)]
        simp only [NL.set2, Int.toNat_natCast]
        rw [w_markIntA2S_l1]
        rw [show (decide ((2 : Int) < 2)) = false from rfl, cond_false, w64_succ hi (by unfold Sm; omega)]
        congr 1
        omega)
      (by
        rintro j ⟨a, b⟩ ⟨ys, rfl, h2, rfl⟩
        simp only [w_markIntA2S_l2, NL.list, h2]
        simp) F (.of xs, k) hF ⟨xs, rfl, rfl, by simp⟩
  obtain ⟨u, b⟩ := s
  simp only at h1 h4 h5
  subst h1; subst h4
  unfold w_markGraph w_markIntA2S
  rw [h5]; rfl

end Go.Zq
/- Plain mathematics: fronts, as lists of one's own. -/
namespace Go.Zq

theorem ex_of_map {α β : Type} {f : α → β} {a : Option β} {b : Option α} {r : β} (h : a = b.map f) (hr : a = some r) : ∃ o, b = some o ∧ f o = r := by
  rw [hr] at h
  cases b with
  | none => cases h
  | some o => simp at h; exact ⟨o, rfl, h.symm⟩
theorem map_cond {α β : Type} {f : α → β} {t : Bool} {a b : Option α} : (bif t then a else b).map f = bif t then a.map f else b.map f := by cases t <;> rfl

theorem setOf_l1_map {F : Nat} {s : Int} : ∀ (k : Nat) (l : NL Int) (i : Int), i_setOf_l1 F s k l i = (i_setOf_o_l1 F s k l i).map NL.list
  | 0, l, i => rfl
  | k + 1, l, i => by
    simp only [i_setOf_l1, i_setOf_o_l1, i_setOf_j1, i_setOf_o_j1, Option.map_bind, map_cond, setOf_l1_map k, Function.comp_def, Option.map_some]

theorem setOf_o_eq {F n : Nat} {p : Nat → Bool} (hn : n ≤ 8) (hF : 20 ≤ F) : ∃ o, i_setOf_o F ((mkm p n : Nat) : Int) = some o ∧ o.list = listN p n :=
  ex_of_map (setOf_l1_map F .nil 0) (setOf_eq hn hF)

theorem listN_le {p : Nat → Bool} {n : Nat} : (listN p n).length ≤ n := by rw [listN_len]; exact cnt_le

end Go.Zq
/- Plain mathematics: the cutwidth of a layout. -/
namespace Go.Zq

end Go.Zq
/- Plain mathematics: the sizes of the fronts of a layout. -/
namespace Go.Zq

end Go.Zq
/- Plain mathematics: the program of a layout. -/
namespace Go.Zq

end Go.Zq
/- Plain mathematics: neighbors as lists. -/
namespace Go.Zq

theorem listN_s {p : Nat → Bool} {n : Nat} : listN p (n + 1) = if p n then listN p n ++ [(n : Int)] else listN p n := by
  rw [listN_succ]; cases p n <;> simp
end Go.Zq
/- Plain mathematics: sets that stop a fire. -/
namespace Go.Zq

theorem mkm_nz {p : Nat → Bool} {n : Nat} : (((mkm p n : Nat) : Int) != 0) = anyN p n := by
  rw [Bool.eq_iff_iff, bne_iff_ne, anyN_iff]
  constructor
  · intro h
    have hne : mkm p n ≠ 0 := by exact_mod_cast h
    obtain ⟨i, hi⟩ := Nat.exists_testBit_of_ne_zero hne
    rw [mkm_bit] at hi
    simp only [Bool.and_eq_true, decide_eq_true_eq] at hi
    exact ⟨i, hi.1, hi.2⟩
  · rintro ⟨i, h1, h2⟩ h
    have : (mkm p n).testBit i = true := by rw [mkm_bit, decide_eq_true h1, h2]; rfl
    have h0 : mkm p n = 0 := by exact_mod_cast h
    rw [h0] at this; simp at this

end Go.Zq
/- Plain mathematics: rankings. -/
namespace Go.Zq

/-- nodes with at most a number; nodes with just this number -/
def lowP (l : List Int) (r : Int) (j : Nat) : Bool := decide (l.getD j 0 ≤ r)
/-- a node of the same number is met -/
def meets (g : Gr) (l : List Int) (x : Nat) : Bool := anyN (fun y => comp g (lowP l (l.getD x 0)) x y && ((y != x) && (l.getD y 0 == l.getD x 0))) g.1.toNat

theorem anyN_listN {p q : Nat → Bool} {n : Nat} : anyN (fun i => q ((listN p n).getD i 0).toNat) (listN p n).length = anyN (fun j => p j && q j) n := by
  rw [Bool.eq_iff_iff, anyN_iff, anyN_iff]
  constructor
  · rintro ⟨i, hi, h⟩
    obtain ⟨a, ha, han, hap⟩ := listN_get hi
    rw [ha, Int.toNat_natCast] at h
    exact ⟨a, han, by rw [hap, h]; rfl⟩
  · rintro ⟨j, hj, h⟩
    simp only [Bool.and_eq_true] at h
    have hm : (j : Int) ∈ listN p n := listN_mem.2 ⟨j, rfl, hj, h.1⟩
    obtain ⟨i, hi, e⟩ := List.getElem_of_mem hm
    refine ⟨i, hi, ?_⟩
    rw [List.getD_eq_getElem?_getD, List.getElem?_eq_getElem hi, Option.getD_some, e, Int.toNat_natCast]
    exact h.2

end Go.Zq
/- Plain mathematics: cliques; perfect eliminations. -/
namespace Go.Zq

/-- all nodes of a set are neighbors of each other -/
def clq (g : Gr) (p : Nat → Bool) : Bool := !anyN (fun x => p x && anyN (fun y => p y && !(adj g x y || y == x)) g.1.toNat) g.1.toNat

theorem clq_iff {g : Gr} {p : Nat → Bool} : clq g p = true ↔ ∀ x y, x < g.1.toNat → y < g.1.toNat → p x = true → p y = true → x ≠ y → adj g x y = true := by
  unfold clq
  rw [Bool.not_eq_true', Bool.eq_false_iff, ne_eq, anyN_iff]
  constructor
  · intro h x y hx hy h1 h2 hne
    cases ha : adj g x y with
    | true => rfl
    | false =>
      refine absurd ⟨x, hx, ?_⟩ h
      rw [h1, Bool.true_and, anyN_iff]
      exact ⟨y, hy, by simp [h2, ha, Ne.symm hne]⟩
  · rintro h ⟨x, hx, h1⟩
    simp only [Bool.and_eq_true] at h1
    obtain ⟨y, hy, h2⟩ := anyN_iff.1 h1.2
    simp only [Bool.and_eq_true, Bool.not_eq_true', Bool.or_eq_false_iff, beq_eq_false_iff_ne] at h2
    have := h x y hx hy h1.1 h2.1 (fun e => h2.2.2 e.symm)
    rw [h2.2.1] at this; cases this

theorem or_bit {A : Nat → Bool} {n x : Nat} (hn : n ≤ 8) (hx : x < n) : ior .i64 ((mkm A n : Nat) : Int) ((2 ^ x : Nat) : Int) = ((mkm (fun j => A j || j == x) n : Nat) : Int) := by
  rw [ior_nat (mkm_lt63 (by omega)) (pow_lt (by omega))]
  congr 1
  refine mkm_of fun j => ?_
  rw [Nat.testBit_or, mkm_bit, Nat.testBit_two_pow]
  by_cases e : x = j
  · subst e
    have : decide (x < n) = true := decide_eq_true (by omega)
    rw [this]; simp
  · have h1 : decide (x = j) = false := by simpa using e
    have h2 : (j == x) = false := by simp; omega
    rw [h1, h2]; simp

theorem andNot_mkm {A B : Nat → Bool} {n : Nat} (hn : n ≤ 8) : iandNot .i64 ((mkm A n : Nat) : Int) ((mkm B n : Nat) : Int) = ((mkm (fun j => A j && !B j) n : Nat) : Int) := by
  obtain ⟨c, hc, _, hb⟩ := iandNot_nat (mkm_lt63 (p := A) (n := n) (by omega)) (mkm_lt63 (p := B) (n := n) (by omega))
  rw [hc]
  congr 1
  apply Nat.eq_of_testBit_eq
  intro j
  rw [hb, mkm_bit, mkm_bit, mkm_bit]
  cases decide (j < n) <;> simp

theorem iClique_eq {F : Nat} {g : Gr} {p : Nat → Bool} (hg : good g = true) (hF : 20 ≤ F) : i_net_isClique F ⟨nearL g⟩ ((mkm p g.1.toNat : Nat) : Int) = some (clq g p) := by
  have h8 := good_size hg
  have hle := listN_le (p := p) (n := g.1.toNat)
  unfold i_net_isClique slices_ContainsFunc_of_i_net_isClique_1 slices_IndexFunc_of_i_net_isClique_1
  rw [setOf_eq (by omega) hF, Option.bind_some]
  obtain ⟨q, h5, h6, _⟩ := loop_first (L := fun k i => slices_IndexFunc_of_i_net_isClique_1_l1 F (listN p g.1.toNat) ⟨(), ⟨((mkm p g.1.toNat : Nat) : Int)⟩, ⟨⟨nearL g⟩⟩, ()⟩ k i) (n := (listN p g.1.toNat).length) (p := fun i => anyN (fun y => p y && !(adj g ((listN p g.1.toNat).getD i 0).toNat y || y == ((listN p g.1.toNat).getD i 0).toNat)) g.1.toNat) (by
    intro k i hi
    obtain ⟨a, ha, han, hap⟩ := listN_get hi
    simp only [slices_IndexFunc_of_i_net_isClique_1_l1, i_net_isClique_1, i_net_closed]
    rw [decide_eq_true (show (i : Int) < ((listN p g.1.toNat).length : Int) by omega), cond_true, idx_getD (d := 0) hi, Option.bind_some, ha, idx_getD (d := 0) (by rw [nearL_len]; omega), Option.bind_some, nearL_get han, one_shl (by omega), Option.bind_some, or_bit (by omega) han, Option.bind_some, andNot_mkm (by omega), mkm_nz, Option.bind_some, w64_succ hi (by unfold Sm; omega), Int.toNat_natCast]) (by
    intro k
    simp only [slices_IndexFunc_of_i_net_isClique_1_l1]
    rw [decide_eq_false (show ¬ ((listN p g.1.toNat).length : Int) < ((listN p g.1.toNat).length : Int) by omega), cond_false]) F (by omega)
  rw [h5, Option.bind_some, Option.bind_some, h6]
  have := anyN_listN (p := p) (q := fun x => anyN (fun y => p y && !(adj g x y || y == x)) g.1.toNat) (n := g.1.toNat)
  rw [this]; rfl

theorem sClique_eq {F : Nat} {g : Gr} {p : Nat → Bool} (hg : good g = true) (hF : 20 ≤ F) (hG : g.2.length < F) (hs : Sm g.2.length) : s_l5Clique F g (listN p g.1.toNat) = some (clq g p) := by
  have h8 := good_size hg
  obtain ⟨X, hX⟩ : ∃ X, listN p g.1.toNat = X := ⟨_, rfl⟩
  have hle := listN_le (p := p) (n := g.1.toNat)
  have hget : ∀ i, i < X.length → ∃ a : Nat, X.getD i 0 = a ∧ a < g.1.toNat ∧ p a = true := by rw [← hX]; exact fun i hi => listN_get hi
  have hsrt : Srt X := by rw [← hX]; exact listN_srt
  rw [hX] at hle ⊢
  unfold s_l5Clique
  have hin : ∀ k i, i < X.length → s_l5Clique_l1 F X g (i : Int) (s_l5Clique_l2 F X g k) F (w64 ((i : Int) + 1)) = bif allN (fun t => (decide (t ≤ i)) || adj g (X.getD i 0).toNat (X.getD t 0).toNat) X.length then s_l5Clique_l2 F X g k ((i + 1 : Nat) : Int) else some false := by
    intro k i hi
    obtain ⟨a, ha, han, _⟩ := hget i hi
    have key : ∀ d k2 t, t + d = X.length → d < k2 → i < t → (∀ j, j < t → (decide (j ≤ i) || adj g (X.getD i 0).toNat (X.getD j 0).toNat) = true) → s_l5Clique_l1 F X g (i : Int) (s_l5Clique_l2 F X g k) k2 (t : Int) = bif allN (fun t => (decide (t ≤ i)) || adj g (X.getD i 0).toNat (X.getD t 0).toNat) X.length then s_l5Clique_l2 F X g k ((i + 1 : Nat) : Int) else some false := by
      intro d
      induction d with
      | zero =>
        intro k2 t ht hk hit hall
        obtain ⟨k2, rfl⟩ : ∃ k', k2 = k' + 1 := ⟨k2 - 1, by omega⟩
        obtain rfl : t = X.length := by omega
        simp only [s_l5Clique_l1]
        rw [decide_eq_false (show ¬ (X.length : Int) < X.length by omega), cond_false, allN_iff.2 hall, cond_true, w64_succ hi (by unfold Sm; omega)]
      | succ d ih =>
        intro k2 t ht hk hit hall
        obtain ⟨k2, rfl⟩ : ∃ k', k2 = k' + 1 := ⟨k2 - 1, by omega⟩
        have htl : t < X.length := by omega
        obtain ⟨b, hb, hbn, _⟩ := hget t htl
        simp only [s_l5Clique_l1]
        rw [decide_eq_true (show (t : Int) < X.length by omega), cond_true, idx_getD (d := 0) hi, Option.bind_some, idx_getD (d := 0) htl, Option.bind_some, ha, hb, near_eq hG hs, Option.bind_some, w64_succ htl (by unfold Sm; omega)]
        cases hab : adj g a b with
        | true =>
          rw [Bool.not_true, cond_false]
          have := ih k2 (t + 1) (by omega) (by omega) (by omega) (by
            intro j hj
            by_cases e : j = t
            · subst e; rw [ha, hb, Int.toNat_natCast, Int.toNat_natCast, hab]; simp
            · exact hall j (by omega))
          rw [this, ha]
        | false =>
          rw [Bool.not_false, cond_true]
          have : allN (fun t => (decide (t ≤ i)) || adj g ((a : Int)).toNat (X.getD t 0).toNat) X.length = false := by
            rw [Bool.eq_false_iff]
            intro h
            have := allN_iff.1 h t htl
            rw [hb, Int.toNat_natCast, Int.toNat_natCast, hab, decide_eq_false (show ¬ t ≤ i by omega)] at this
            cases this
          rw [this]; rfl
    rw [w64_succ hi (by unfold Sm; omega)]
    by_cases h1 : i + 1 < X.length
    · exact key (X.length - (i + 1)) F (i + 1) (by omega) (by omega) (by omega) (by intro j hj; simp [show j ≤ i by omega])
    · exact key 0 F (i + 1) (by omega) (by omega) (by omega) (by intro j hj; simp [show j ≤ i by omega])
  rw [loop_all (L := fun k i => s_l5Clique_l2 F X g k i) (n := X.length) (p := fun i => allN (fun t => (decide (t ≤ i)) || adj g (X.getD i 0).toNat (X.getD t 0).toNat) X.length) (bad := some false) (fin := some true) ?_ ?_ F (by omega)]
  · have : allN (fun i => allN (fun t => (decide (t ≤ i)) || adj g (X.getD i 0).toNat (X.getD t 0).toNat) X.length) X.length = clq g p := by
      rw [Bool.eq_iff_iff, allN_iff, clq_iff]
      constructor
      · intro h
        have key : ∀ x y, x < g.1.toNat → y < g.1.toNat → p x = true → p y = true → x < y → adj g x y = true := by
          intro x y hx hy h1 h2 hlt
          have hm1 : (x : Int) ∈ X := by rw [← hX]; exact listN_mem.2 ⟨x, rfl, hx, h1⟩
          have hm2 : (y : Int) ∈ X := by rw [← hX]; exact listN_mem.2 ⟨y, rfl, hy, h2⟩
          obtain ⟨i, hi, e1⟩ := List.getElem_of_mem hm1
          obtain ⟨t, ht, e2⟩ := List.getElem_of_mem hm2
          have e3 : X.getD i 0 = (x : Int) := by rw [List.getD_eq_getElem?_getD, List.getElem?_eq_getElem hi, Option.getD_some, e1]
          have e4 : X.getD t 0 = (y : Int) := by rw [List.getD_eq_getElem?_getD, List.getElem?_eq_getElem ht, Option.getD_some, e2]
          have hit : i < t := by
            rcases Nat.lt_trichotomy i t with h3 | h3 | h3
            · exact h3
            · subst h3; rw [e3] at e4; omega
            · have := srt_lt hsrt h3 hi
              rw [e3, e4] at this; omega
          have := allN_iff.1 (h i hi) t ht
          rw [e3, e4, Int.toNat_natCast, Int.toNat_natCast, decide_eq_false (show ¬ t ≤ i by omega), Bool.false_or] at this
          exact this
        intro x y hx hy h1 h2 hne
        rcases Nat.lt_trichotomy x y with h3 | h3 | h3
        · exact key x y hx hy h1 h2 h3
        · exact absurd h3 hne
        · rw [adj_comm]; exact key y x hy hx h2 h1 h3
      · intro h i hi
        rw [allN_iff]
        intro t ht
        by_cases hle2 : t ≤ i
        · simp [hle2]
        · obtain ⟨a, ha, han, hap⟩ := hget i hi
          obtain ⟨b, hb, hbn, hbp⟩ := hget t ht
          have hlt := srt_lt hsrt (show i < t by omega) ht
          rw [ha, hb] at hlt
          rw [ha, hb, Int.toNat_natCast, Int.toNat_natCast, h a b han hbn hap hbp (by omega)]; simp
    rw [this]
    cases clq g p <;> rfl
  · intro k i hi
    simp only [s_l5Clique_l2]
    rw [decide_eq_true (show (i : Int) < X.length by omega), cond_true]
    exact hin k i hi
  · intro k
    simp only [s_l5Clique_l2]
    rw [decide_eq_false (show ¬ (X.length : Int) < X.length by omega), cond_false]

end Go.Zq
/- Plain mathematics: perfect eliminations. -/
namespace Go.Zq

theorem mkm_full {n : Nat} : mkm (fun _ => true) n = 2 ^ n - 1 := by
  induction n with
  | zero => rfl
  | succ n ih =>
    have := mkm_add (p := fun _ => true) (n := n)
    rw [this, ih]
    have := Nat.two_pow_pos n
    simp only [if_true, Nat.pow_succ]; omega

theorem iAll_eq {F : Nat} {g : Gr} (hg : good g = true) : i_net_all F ⟨nearL g⟩ = some ((mkm (fun _ => true) g.1.toNat : Nat) : Int) := by
  have h8 := good_size hg
  have hpow := Nat.two_pow_pos g.1.toNat
  have h256 : 2 ^ g.1.toNat ≤ 256 := by
    have := Nat.pow_le_pow_right (n := 2) (by decide) (show g.1.toNat ≤ 8 by omega)
    simpa using this
  unfold i_net_all
  rw [nearL_len, one_shl (by omega), Option.bind_some, w64_id (by omega) (by omega), mkm_full]
  congr 1; omega

end Go.Zq
/- Plain mathematics: the table of best orders for a cost (frontSize). -/
namespace Go.Zq

end Go.Zq
/- Plain mathematics: the pathwidth. -/
namespace Go.Zq

end Go.Zq
