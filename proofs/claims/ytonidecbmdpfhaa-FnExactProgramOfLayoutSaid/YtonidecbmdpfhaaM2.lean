/- Plain mathematics: what the functions answer (part 2). Conditions: stated in each theorem. -/
import Derived.Test.YtonidecbmdpfhaaM1
set_option linter.unusedVariables false
set_option linter.unusedSimpArgs false
/- Plain mathematics: sets of nodes as lists and as numbers; brambles. -/
namespace Go.Zq

/-- the nodes of a list -/
def bq (l : List Int) (j : Nat) : Bool := decide ((j : Int) ∈ l)

end Go.Zq
/- Plain mathematics: own copies of arguments; lists that are marked. -/
namespace Go.Zq

theorem toIntS_o_eq {F : Nat} {xs : List Int} (hF : xs.length < F) (hl : xs.length ≤ 1099511627776) : w_toIntS_o F xs = some (.of xs) := by
  unfold w_toIntS_o
  rw [mkN_nat hl, Option.bind_some]
  refine loop_inv (L := fun k i s => w_toIntS_o_l1 F xs k s i) (n := xs.length) (fun i ys => ys.length = xs.length ∧ ys.take i = xs.take i) ?_ ?_ F _ hF (by simp)
  · intro k i s hi hI
    refine ⟨_, copied hI hi, ?_⟩
    simp only [w_toIntS_o_l1]
    rw [idx_nat hi, idx_nat (by omega), w64_succ hi (by unfold Sm; omega)]
    simp [hi]
  · intro k s hI
    simp only [w_toIntS_o_l1]
    rw [copied_end hI]; simp

theorem toIntA2S_o_eq {F : Nat} {xs : List (Int × Int)} (hF : xs.length < F) (hl : xs.length ≤ 1099511627776) (h3 : 3 ≤ F) : w_toIntA2S_o F xs = some (.of xs) := by
  unfold w_toIntA2S_o
  rw [mkN_nat hl, Option.bind_some]
  refine loop_inv (L := fun k i s => w_toIntA2S_o_l1 F xs k s i) (n := xs.length) (fun i ys => ys.length = xs.length ∧ ys.take i = xs.take i) ?_ ?_ F _ hF (by simp)
  · intro k i s hi hI
    refine ⟨_, copied hI hi, ?_⟩
    simp only [w_toIntA2S_o_l1]
    rw [idx_nat hi, idx_nat (by omega), w64_succ hi (by unfold Sm; omega)]
    simp [hi, toIntA2_eq h3]
  · intro k s hI
    simp only [w_toIntA2S_o_l1]
    rw [copied_end hI]; simp

theorem toGraph_o_eq {F : Nat} {g : Int × List (Int × Int)} (hF : g.2.length < F) (hl : g.2.length ≤ 1099511627776) (h3 : 3 ≤ F) : w_toGraph_o F g = some (g.1, .of g.2) := by
  unfold w_toGraph_o
  rw [toIntA2S_o_eq hF hl h3]; rfl

/-- what a marked list is -/
def mkd (n : Nat) (k : Int) : List Int := (List.range n).map fun (i : Nat) => k + (i : Int)
theorem mkd_length {n : Nat} {k : Int} : (mkd n k).length = n := by simp [mkd]
theorem mkd_get {n i : Nat} {k : Int} (h : i < n) : idx (mkd n k) (i : Int) = some (k + i) := by
  rw [idx_nat (by rw [mkd_length]; exact h)]
  simp [mkd]

theorem markIntS_eq {F : Nat} {o : NL Int} {k : Int} (hF : o.list.length < F) (hl : o.list.length ≤ 1099511627776) (h0 : 0 ≤ k) (hk : k ≤ 4611686018427387904) :
    ∃ o', w_markIntS F ⟨o⟩ k = some (k + o.list.length, o') ∧ remark o o' = some o' ∧ o'.list = mkd o.list.length k := by
  cases o with
  | nil =>
    obtain ⟨j, rfl⟩ : ∃ j, F = j + 1 := ⟨F - 1, by omega⟩
    exact ⟨.nil, by simp [w_markIntS, w_markIntS_l1, NL.list], rfl, by simp [NL.list, mkd]⟩
  | of xs =>
    simp only [NL.list] at hF hl ⊢
    obtain ⟨s, ⟨ys, h1, h2, h3, h4⟩, h5⟩ := loop_ex (L := fun j i (s : NL Int × Int) => w_markIntS_l1 F j s.1 s.2 i) (n := xs.length) (fin := fun s => some (s.2, s.1))
      (fun i s => ∃ ys : List Int, s.1 = .of ys ∧ ys.length = xs.length ∧ s.2 = k + i ∧ ∀ j, j < i → ys[j]? = some (k + (j : Int)))
      (by
        rintro j i ⟨a, b⟩ hi ⟨ys, rfl, h2, rfl, h4⟩
        refine ⟨(.of (ys.set i (k + i)), k + ((i + 1 : Nat) : Int)), ⟨_, rfl, by simp [h2], rfl, ?_⟩, ?_⟩
        · intro m hm
          rw [List.getElem?_set]
          by_cases e : i = m
          · subst e; simp [h2, hi]
          · simp only [e, if_false]; exact h4 m (by omega)
        · simp only [w_markIntS_l1, NL.list]
          have : decide ((i : Int) < (ys.length : Int)) = true := by simp; omega
          change (bif decide ((i : Int) < (ys.length : Int)) then _ else _) = _
          rw [this, cond_true, idx_nat (by omega), Option.bind_some, w64_succ hi (by unfold Sm; omega), w64_id (x := k + i + 1) (by omega) (by omega)]
          simp only [NL.set, Int.toNat_natCast]
          congr 1
          omega)
      (by
        rintro j ⟨a, b⟩ ⟨ys, rfl, h2, rfl, h4⟩
        simp only [w_markIntS_l1, NL.list, h2]
        simp) F (.of xs, k) hF ⟨xs, rfl, rfl, by simp, by simp⟩
    obtain ⟨a, b⟩ := s
    simp only at h1 h3 h5
    subst h1; subst h3
    refine ⟨.of ys, ?_, by simp [remark, h2], ?_⟩
    · unfold w_markIntS; exact h5
    · simp only [NL.list]
      apply List.ext_getElem?
      intro i
      by_cases hi : i < xs.length
      · rw [h4 i hi]; simp [mkd, hi]
      · rw [List.getElem?_eq_none (by omega), List.getElem?_eq_none (by rw [mkd_length]; omega)]

theorem heldIntS_eq {F n : Nat} {k : Int} (hF : n < F) (hl : n ≤ 1099511627776) (h0 : 0 ≤ k) (hk : k ≤ 4611686018427387904) : w_heldIntS F (mkd n k) k = some (k + n) := by
  unfold w_heldIntS
  refine loop_inv (L := fun j i s => w_heldIntS_l1 F (mkd n k) j s i) (n := n) (fun i s => s = k + (i : Int)) ?_ ?_ F _ hF (by simp)
  · rintro j i s hi rfl
    refine ⟨_, rfl, ?_⟩
    simp only [w_heldIntS_l1, mkd_length]
    have : decide ((i : Int) < (n : Int)) = true := by simpa using hi
    rw [this, cond_true, mkd_get hi, Option.bind_some, w64_succ hi (by unfold Sm; omega), w64_id (x := k + i + 1) (by omega) (by omega)]
    simp only [bne_self_eq_false, cond_false]
    congr 1
    omega
  · rintro j s rfl
    simp only [w_heldIntS_l1, mkd_length]
    simp

theorem set2_length {α : Type} {xs : List (α × α)} {i : Nat} {j : Int} {b : α} : (set2 xs i j b).length = xs.length := by
  unfold set2
  split <;> simp

theorem markGraph_eq {F : Nat} {a : Int} {xs : List (Int × Int)} {k : Int} (hF : xs.length < F) (h3 : 3 ≤ F) (hl : xs.length ≤ 1099511627776) (h0 : 0 ≤ k) (hk : k ≤ 4611686018427387904) :
    w_markGraph F ⟨a, .of xs⟩ k = some (k + 2 * xs.length) := by
  obtain ⟨s, ⟨ys, h1, h2, h4⟩, h5⟩ := loop_ex (L := fun j i (s : NL (Int × Int) × Int) => w_markIntA2S_l2 F j s.1 s.2 i) (n := xs.length) (fin := fun s => some (s.2, s.1))
      (fun i s => ∃ ys : List (Int × Int), s.1 = .of ys ∧ ys.length = xs.length ∧ s.2 = k + 2 * (i : Int))
      (by
        rintro j i ⟨a, b⟩ hi ⟨ys, rfl, h2, rfl⟩
        refine ⟨(.of (set2 (set2 ys i 0 (k + 2 * i)) i 1 (k + 2 * i + 1)), k + 2 * ((i + 1 : Nat) : Int)), ⟨_, rfl, by simp [set2_length, h2], rfl⟩, ?_⟩
        simp only [w_markIntA2S_l2, NL.list]
        have : decide ((i : Int) < (ys.length : Int)) = true := by simp; omega
        change (bif decide ((i : Int) < (ys.length : Int)) then _ else _) = _
        rw [this, cond_true]
        obtain ⟨f, rfl⟩ : ∃ f, F = f + 3 := ⟨F - 3, by omega⟩
        rw [w_markIntA2S_l1]
        simp only [NL.list]
        rw [idx_nat (by omega)]
        rw [show (decide ((0 : Int) < 2)) = true from rfl, cond_true, Option.bind_some]
        rw [show idx [(ys[i]'(by omega)).1, (ys[i]'(by omega)).2] 0 = some (ys[i]'(by omega)).1 from rfl, Option.bind_some]
        rw [show w64 (0 + 1) = 1 from by decide, w64_id (x := k + 2 * i + 1) (by omega) (by omega)]
        simp only [NL.set2, Int.toNat_natCast]
        rw [w_markIntA2S_l1]
        simp only [NL.list]
        rw [idx_nat (by rw [set2_length]; omega)]
        rw [show (decide ((1 : Int) < 2)) = true from rfl, cond_true, Option.bind_some]
        rw [show ∀ u v : Int, idx [u, v] 1 = some v from fun _ _ => rfl, Option.bind_some]
        rw [show w64 (1 + 1) = 2 from by decide, w64_id (x := k + 2 * i + 1 + 1) (by omega) (by omega)]
        simp only [NL.set2, Int.toNat_natCast]
        rw [w_markIntA2S_l1]
        rw [show (decide ((2 : Int) < 2)) = false from rfl, cond_false, w64_succ hi (by unfold Sm; omega)]
        congr 1
        omega)
      (by
        rintro j ⟨a, b⟩ ⟨ys, rfl, h2, rfl⟩
        simp only [w_markIntA2S_l2, NL.list, h2]
        simp) F (.of xs, k) hF ⟨xs, rfl, rfl, by simp⟩
  obtain ⟨u, b⟩ := s
  simp only at h1 h4 h5
  subst h1; subst h4
  unfold w_markGraph w_markIntA2S
  rw [h5]; rfl

end Go.Zq
/- Plain mathematics: fronts, as lists of one's own. -/
namespace Go.Zq

theorem listN_le {p : Nat → Bool} {n : Nat} : (listN p n).length ≤ n := by rw [listN_len]; exact cnt_le

end Go.Zq
/- Plain mathematics: the cutwidth of a layout. -/
namespace Go.Zq

theorem isOrd_in {n : Int} {l : List Int} (h : isOrd n l = true) (h0 : 0 ≤ n) : ∀ y ∈ l, 0 ≤ y ∧ y < n := by
  have hl := isOrd_len h
  have := (cover_len n.toNat l (fun j hj => isOrd_mem h (by omega) (by omega))).2 (by omega)
  intro y hy
  have := this y hy
  omega

end Go.Zq
/- Plain mathematics: the sizes of the fronts of a layout. -/
namespace Go.Zq

/-- the front of any list of nodes -/
theorem sFrontL_eq {F : Nat} {g : Gr} {l : List Int} (hg : good g = true) (hr : ∀ y ∈ l, 0 ≤ y ∧ y < g.1) (hlen : l.length ≤ 8) (hF : 20 ≤ F) (hG : g.2.length < F) (hs : Sm g.2.length) : s_l6Front F g l = some (listN (frt g (bq l)) g.1.toNat) := by
  have h8 := good_size hg
  let Q : Nat → Nat → Bool := fun i j => decide ((j : Int) ∈ l.take i) && anyN (fun y => adj g j y && !bq l y) g.1.toNat
  unfold s_l6Front
  refine loop_inv (L := fun k i s => s_l6Front_l2 F l g k s i) (n := l.length) (fun i s => s = listN (Q i) g.1.toNat) ?_ ?_ F _ (by omega) ?_
  · intro k i s hi hI
    subst hI
    refine ⟨_, rfl, ?_⟩
    obtain ⟨a, ha, han⟩ : ∃ a : Nat, l.getD i 0 = a ∧ a < g.1.toNat := by
      have := hr _ (getD_mem (d := 0) hi)
      exact ⟨(l.getD i 0).toNat, by omega, by omega⟩
    simp only [s_l6Front_l2]
    rw [decide_eq_true (show (i : Int) < (l.length : Int) by omega), cond_true]
    refine loop_inv (L := fun k2 y s => s_l6Front_l1 F l g (i : Int) (s_l6Front_l2 F l g k) k2 s y) (n := g.1.toNat) (fun y s => s = listN (fun j => Q i j || (j == a && anyN (fun y => adj g a y && !bq l y) y)) g.1.toNat) ?_ ?_ F _ (by omega) ?_
    · intro k2 y s hy hI
      subst hI
      refine ⟨_, rfl, ?_⟩
      simp only [s_l6Front_l1, s_l6Front_j1, s_l6Front_j2]
      rw [decide_eq_true (show (y : Int) < g.1 by omega), cond_true, idx_getD (d := 0) hi, Option.bind_some, Option.bind_some, ha, near_eq hG hs, Option.bind_some, l1Has_eq (by omega) (by unfold Sm; omega), show decide ((y : Int) ∈ l) = bq l y from rfl, Option.bind_some, put_eq (by omega) han (by omega), Option.bind_some, w64_succ hy (by unfold Sm; omega)]
      have hsame : (adj g a y && !bq l y) = false → listN (fun j => Q i j || (j == a && anyN (fun y => adj g a y && !bq l y) (y + 1))) g.1.toNat = listN (fun j => Q i j || (j == a && anyN (fun y => adj g a y && !bq l y) y)) g.1.toNat := by
        intro h
        apply listN_congr
        intro j _
        simp only [anyN]
        rw [h, Bool.or_false]
      cases h1 : adj g a y with
      | false => rw [hsame (by rw [h1]; rfl)]; rfl
      | true =>
        rw [cond_true]
        cases h2 : bq l y with
        | true => rw [hsame (by rw [h1, h2]; rfl)]; rfl
        | false =>
          rw [Bool.not_false, cond_true]
          congr 1
          apply listN_congr
          intro j _
          simp only [anyN]
          rw [h1, h2]
          by_cases e : j = a
          · subst e; simp
          · have : (j == a) = false := by simpa using e
            rw [this]; simp
    · intro k2 s hI
      subst hI
      simp only [s_l6Front_l1]
      rw [decide_eq_false (show ¬ (g.1.toNat : Int) < g.1 by omega), cond_false, w64_succ hi (by unfold Sm; omega)]
      congr 1
      apply listN_congr
      intro j _
      have hp2 := pre_succ (x := a) hi ha j
      unfold preP at hp2
      show (Q i j || _) = Q (i + 1) j
      show (Q i j || _) = (decide ((j : Int) ∈ l.take (i + 1)) && anyN (fun y => adj g j y && !bq l y) g.1.toNat)
      rw [hp2]
      by_cases e : j = a
      · subst e
        rw [beq_self_eq_true, Bool.true_and, Bool.or_true, Bool.true_and]
        show ((_ && anyN (fun y => adj g j y && !bq l y) g.1.toNat) || _) = _
        cases anyN (fun y => adj g j y && !bq l y) g.1.toNat <;> simp
      · have : (j == a) = false := by simpa using e
        rw [this, Bool.false_and, Bool.or_false, Bool.or_false]
    · apply listN_congr
      intro j _
      simp [anyN]
  · intro k s hI
    subst hI
    simp only [s_l6Front_l2]
    rw [decide_eq_false (show ¬ (l.length : Int) < (l.length : Int) by omega), cond_false]
    congr 1
    apply listN_congr
    intro j hj
    show (decide ((j : Int) ∈ l.take l.length) && _) = _
    rw [List.take_length]
    rfl
  · have : listN (Q 0) g.1.toNat = listN (fun _ => false) g.1.toNat := by
      apply listN_congr
      intro j _
      show (decide ((j : Int) ∈ l.take 0) && _) = false
      simp
    rw [this]; simp [listN]

theorem preP_bq {l : List Int} {i : Nat} : bq (l.take i) = preP l i := rfl

end Go.Zq
/- Plain mathematics: the program of a layout. -/
namespace Go.Zq

theorem near_out {g : Gr} {a n : Nat} {p : Nat → Bool} (hn : n ≤ 8) : (iandNot .i64 ((mkm (adj g a) n : Nat) : Int) ((mkm p n : Nat) : Int) == 0) = !anyN (fun y => adj g a y && !p y) n := by
  obtain ⟨c, hc, _, hb⟩ := iandNot_nat (mkm_lt63 (p := adj g a) (n := n) (by omega)) (mkm_lt63 (p := p) (n := n) (by omega))
  rw [hc]
  have hiff : c = 0 ↔ anyN (fun y => adj g a y && !p y) n = false := by
    rw [anyN_eq, Bool.not_eq_false', allN_iff]
    constructor
    · intro h0 y hy
      have := hb y
      rw [h0, Nat.zero_testBit, mkm_bit, mkm_bit, decide_eq_true hy, Bool.true_and, Bool.true_and] at this
      rw [← this]; rfl
    · intro h
      apply Nat.eq_of_testBit_eq
      intro y
      rw [hb, mkm_bit, mkm_bit, Nat.zero_testBit]
      by_cases hy : y < n
      · have := h y hy
        rw [decide_eq_true hy, Bool.true_and, Bool.true_and]
        cases h6 : (adj g a y && !p y) with
        | false => rfl
        | true => rw [h6] at this; cases this
      · rw [decide_eq_false hy]; rfl
  cases h : anyN (fun y => adj g a y && !p y) n with
  | false => rw [hiff.2 h]; rfl
  | true =>
    have hne : c ≠ 0 := fun e => by rw [hiff.1 e] at h; cases h
    simpa using hne

theorem mkm_drop {A : Nat → Bool} {n a : Nat} (hn : n ≤ 8) (ha : a < n) : iandNot .i64 ((mkm A n : Nat) : Int) ((2 ^ a : Nat) : Int) = ((mkm (fun j => A j && !(j == a)) n : Nat) : Int) := by
  obtain ⟨c, hc, _, hb⟩ := iandNot_nat (mkm_lt63 (p := A) (n := n) (by omega)) (pow_lt (j := a) (by omega))
  rw [hc]
  congr 1
  apply Nat.eq_of_testBit_eq
  intro j
  rw [hb, mkm_bit, mkm_bit, Nat.testBit_two_pow]
  by_cases e : j = a
  · subst e; simp
  · have e1 : (j == a) = false := by simpa using e
    rw [e1, decide_eq_false (show ¬ a = j by omega)]
    simp

theorem filter_listN {A B : Nat → Bool} : ∀ n, (listN A n).filter (fun y => B y.toNat) = listN (fun j => A j && B j) n
  | 0 => rfl
  | n + 1 => by
    rw [listN_succ, listN_succ, List.filter_append, filter_listN n]
    congr 1
    cases h : A n
    · rfl
    · simp only [Bool.true_and, if_true, List.filter_cons, List.filter_nil, Int.toNat_natCast]

/-- the steps that take away -/
def outA (A B : Nat → Bool) (n : Nat) : List Int := (listN (fun j => A j && !B j) n).map fun y => -1 - y
theorem outA_len {A B : Nat → Bool} {n : Nat} : (outA A B n).length ≤ n := by rw [outA, List.length_map]; exact listN_le

theorem takeS {l : List Int} {k a : Nat} (hk : k < l.length) (ha : l.getD k 0 = (a : Int)) : l.take (k + 1) = l.take k ++ [(a : Int)] := by
  rw [List.take_add_one]
  rw [List.getD_eq_getElem?_getD, List.getElem?_eq_getElem hk] at ha
  simp only [Option.getD_some] at ha
  rw [List.getElem?_eq_getElem hk, ha]; rfl

theorem sInner {F n i : Nat} {g : Gr} {A B : Nat → Bool} {lay out0 : List Int} {c1 : List Int → List Int → Int → Option (List Int × Bool)} (hF : 20 ≤ F) (hn : n ≤ 8) (ho : out0.length ≤ 1000) :
    s_ProgramOfLayout_l1 F lay g (listN A n) (i : Int) (listN B n) c1 F out0 [] 0 = c1 (out0 ++ outA A B n) (listN (fun j => A j && B j) n) (w64 ((i : Int) + 1)) := by
  have h8 := listN_le (p := A) (n := n)
  refine loop_inv (L := fun k t (s : List Int × List Int) => s_ProgramOfLayout_l1 F lay g (listN A n) (i : Int) (listN B n) c1 k s.1 s.2 t) (n := (listN A n).length) (fun k s => s = (out0 ++ (((listN A n).take k).filter (fun y => !B y.toNat)).map (fun y => -1 - y), ((listN A n).take k).filter (fun y => B y.toNat))) ?_ ?_ F (out0, []) (by omega) (by simp)
  · rintro k t s ht rfl
    obtain ⟨a, ha, han, hap⟩ := listN_get ht
    refine ⟨_, rfl, ?_⟩
    have hl1 := List.length_filter_le (fun y : Int => !B y.toNat) ((listN A n).take t)
    have hl2 := List.length_filter_le (fun y : Int => B y.toNat) ((listN A n).take t)
    have hl3 : ((listN A n).take t).length ≤ 8 := by simp; omega
    simp only [s_ProgramOfLayout_l1, s_ProgramOfLayout_j1]
    rw [decide_eq_true (show (t : Int) < ((listN A n).length : Int) by omega), cond_true, idx_getD (d := 0) ht, Option.bind_some, ha, has_listN hn han hF, Option.bind_some, w64_succ ht (by unfold Sm; omega), takeS ht ha, List.filter_append, List.filter_append]
    cases hB : B a with
    | true =>
      rw [cond_true, Option.bind_some, appL_one (by omega), Option.bind_some]
      simp [List.filter_cons, hB]
    | false =>
      rw [cond_false, Option.bind_some, appL_one (by rw [List.length_append, List.length_map]; omega), Option.bind_some, w64_id (x := -1 - (a : Int)) (by omega) (by omega)]
      simp [List.filter_cons, hB]
  · rintro k s rfl
    simp only [s_ProgramOfLayout_l1]
    rw [decide_eq_false (show ¬ ((listN A n).length : Int) < ((listN A n).length : Int) by omega), cond_false, List.take_length, filter_listN]
    have := filter_listN (A := A) (B := fun j => !B j) n
    rw [this]; rfl

theorem iInner {F i : Nat} {g : Gr} {A P : Nat → Bool} {lay prog0 : List Int} {had q : Int} {c1 : NL Int → Int → Int → Int → Option (NL Int × Bool)} (hg : good g = true) (hF : 20 ≤ F) (ho : prog0.length ≤ 1000)
    (hhad : ior .i64 had q = ((mkm P g.1.toNat : Nat) : Int)) (hAP : ∀ j, A j = true → P j = true) :
    i_ProgramOfLayout_o_l1 F ⟨nearL g⟩ had q lay (i : Int) (listN A g.1.toNat) c1 F prog0 ((mkm A g.1.toNat : Nat) : Int) 0 = c1 (.of (prog0 ++ outA A (frt g P) g.1.toNat)) ((mkm P g.1.toNat : Nat) : Int) ((mkm (fun j => A j && frt g P j) g.1.toNat : Nat) : Int) (w64 ((i : Int) + 1)) := by
  have h8 := good_size hg
  obtain ⟨n, hn⟩ : ∃ n : Nat, g.1.toNat = n := ⟨_, rfl⟩
  have hn8 : n ≤ 8 := by omega
  rw [hn] at hhad ⊢
  have h8' := listN_le (p := A) (n := n)
  refine loop_inv (L := fun k t (s : List Int × Int) => i_ProgramOfLayout_o_l1 F ⟨nearL g⟩ had q lay (i : Int) (listN A n) c1 k s.1 s.2 t) (n := (listN A n).length) (fun k s => s = (prog0 ++ (((listN A n).take k).filter (fun y => !frt g P y.toNat)).map (fun y => -1 - y), ((mkm (fun j => A j && (frt g P j || !decide ((j : Int) ∈ (listN A n).take k))) n : Nat) : Int))) ?_ ?_ F (prog0, _) (by omega) ?_
  · rintro k t s ht rfl
    obtain ⟨a, ha, han, hap⟩ := listN_get ht
    refine ⟨_, rfl, ?_⟩
    have hl1 := List.length_filter_le (fun y : Int => !frt g P y.toNat) ((listN A n).take t)
    have hl3 : ((listN A n).take t).length ≤ 8 := by simp; omega
    have hf : frt g P a = anyN (fun y => adj g a y && !P y) n := by unfold frt; rw [hAP a hap, Bool.true_and, hn]
    have hmem : ∀ j : Nat, decide ((j : Int) ∈ (listN A n).take (t + 1)) = (decide ((j : Int) ∈ (listN A n).take t) || j == a) := by
      intro j
      have hp2 := pre_succ (x := a) ht ha j
      unfold preP at hp2
      exact hp2
    simp only [i_ProgramOfLayout_o_l1, i_ProgramOfLayout_o_j1]
    rw [decide_eq_true (show (t : Int) < ((listN A n).length : Int) by omega), cond_true, idx_getD (d := 0) ht, Option.bind_some, ha, idx_getD (d := 0) (by rw [nearL_len, hn]; exact han), Option.bind_some, nearL_get (by rw [hn]; exact han), hn, hhad, near_out (by omega), ← hf, w64_succ ht (by unfold Sm; omega), takeS ht ha, List.filter_append]
    cases hB : frt g P a with
    | true =>
      rw [Bool.not_true, cond_false]
      have : mkm (fun j => A j && (frt g P j || !decide ((j : Int) ∈ (listN A n).take t ++ [(a : Int)]))) n = mkm (fun j => A j && (frt g P j || !decide ((j : Int) ∈ (listN A n).take t))) n := by
        apply mkm_congr
        intro j _
        rw [← takeS ht ha, hmem]
        by_cases e : j = a
        · subst e; rw [hB]; simp
        · have : (j == a) = false := by simpa using e
          rw [this, Bool.or_false]
      rw [this]
      simp [List.filter_cons, hB]
    | false =>
      rw [Bool.not_false, cond_true, appL_one (by rw [List.length_append, List.length_map]; omega), Option.bind_some, one_shl (by omega), Option.bind_some, mkm_drop (by omega) han, w64_id (x := -1 - (a : Int)) (by omega) (by omega)]
      have : mkm (fun j => A j && (frt g P j || !decide ((j : Int) ∈ (listN A n).take t ++ [(a : Int)]))) n = mkm (fun j => (A j && (frt g P j || !decide ((j : Int) ∈ (listN A n).take t))) && !(j == a)) n := by
        apply mkm_congr
        intro j _
        rw [← takeS ht ha, hmem]
        by_cases e : j = a
        · subst e; rw [hB]; simp
        · have : (j == a) = false := by simpa using e
          rw [this, Bool.or_false, Bool.not_false, Bool.and_true]
      rw [this]
      simp [List.filter_cons, hB]
  · rintro k s rfl
    simp only [i_ProgramOfLayout_o_l1]
    rw [decide_eq_false (show ¬ ((listN A n).length : Int) < ((listN A n).length : Int) by omega), cond_false, List.take_length, hhad]
    have := filter_listN (A := A) (B := fun j => !frt g P j) n
    rw [this]
    have : mkm (fun j => A j && (frt g P j || !decide ((j : Int) ∈ listN A n))) n = mkm (fun j => A j && frt g P j) n := by
      apply mkm_congr
      intro j hj
      cases hA : A j with
      | false => rfl
      | true =>
        have : decide ((j : Int) ∈ listN A n) = true := decide_eq_true (listN_mem.2 ⟨j, rfl, hj, hA⟩)
        rw [this]; simp
    rw [this]; rfl
  · have : mkm A n = mkm (fun j => A j && (frt g P j || !decide ((j : Int) ∈ (listN A n).take 0))) n := by
      apply mkm_congr
      intro j _
      simp
    rw [← this]; simp

/-- where searchers are behind the first nodes of a layout, and the steps up to there -/
def polT (g : Gr) (l : List Int) : Nat → Nat → Bool
  | 0 => fun _ => false
  | i + 1 => fun j => (polT g l i j || j == (l.getD i 0).toNat) && frt g (preP l (i + 1)) j
def polO (g : Gr) (l : List Int) : Nat → List Int
  | 0 => []
  | i + 1 => polO g l i ++ [l.getD i 0] ++ outA (fun j => polT g l i j || j == (l.getD i 0).toNat) (frt g (preP l (i + 1))) g.1.toNat

theorem polO_len {g : Gr} {l : List Int} (hn : g.1.toNat ≤ 8) : ∀ i, (polO g l i).length ≤ 9 * i
  | 0 => by simp [polO]
  | i + 1 => by
    have := polO_len (l := l) hn i
    have h2 := outA_len (A := fun j => polT g l i j || j == (l.getD i 0).toNat) (B := frt g (preP l (i + 1))) (n := g.1.toNat)
    simp only [polO, List.length_append, List.length_singleton]
    omega

theorem polT_pre {g : Gr} {l : List Int} : ∀ i, i ≤ l.length → (∀ y ∈ l, 0 ≤ y) → ∀ j, polT g l i j = true → preP l i j = true
  | 0, _, _, j, h => by simp [polT] at h
  | i + 1, hi, hr, j, h => by
    simp only [polT, Bool.and_eq_true] at h
    have h2 := h.2
    unfold frt at h2
    simp only [Bool.and_eq_true] at h2
    exact h2.1

theorem exProgramOfLayout {F : Nat} {g : Gr} {l : List Int} (hF : l.length < F) (hG : g.2.length < F) (h9 : 20 ≤ F) (hl : Sm l.length) (hs : Sm g.2.length) :
    ∃ R b o, s_ProgramOfLayout F g l = some (R, b) ∧ i_ProgramOfLayout_o F g l = some (o, b) ∧ o.list = R ∧ R.length ≤ 80 := by
  unfold s_ProgramOfLayout i_ProgramOfLayout_o s_l6Layout
  rw [l2Good_eq hG hs, isGraph_eq hG (by omega) hs, Option.bind_some, Option.bind_some]
  cases h : good g with
  | false => exact ⟨[], false, .nil, rfl, rfl, rfl, by simp⟩
  | true =>
    have h8 := good_size h
    simp only [Bool.not_true, cond_false]
    rw [l2Each_eq h8.1 h8.2 hF (by omega) hl, isOrder_eq h8.1 h8.2 hF hl]
    cases ho : isOrd g.1 l with
    | false => exact ⟨[], false, .nil, rfl, rfl, rfl, by simp⟩
    | true =>
      have hlen := isOrd_len ho
      have hr := isOrd_in ho h8.1
      have hp := polO_len (g := g) (l := l) (by omega)
      have key : ∀ t, t < l.length → ∃ x : Nat, l.getD t 0 = x ∧ x < g.1.toNat := by
        intro t ht
        have := hr _ (getD_mem (d := 0) ht)
        exact ⟨(l.getD t 0).toNat, by omega, by omega⟩
      have hS : s_ProgramOfLayout_l2 F l g F [] [] 0 = some (polO g l l.length, true) := by
        refine loop_inv (L := fun k t (s : List Int × List Int) => s_ProgramOfLayout_l2 F l g k s.1 s.2 t) (n := l.length) (fun t s => s = (polO g l t, listN (polT g l t) g.1.toNat)) ?_ ?_ F ([], []) hF ?_
        · rintro k t s ht rfl
          obtain ⟨x, hx, hxn⟩ := key t ht
          refine ⟨_, rfl, ?_⟩
          have hpt := hp t
          simp only [s_ProgramOfLayout_l2]
          have e : w64 ((t : Int) + 1) = ((t + 1 : Nat) : Int) := w64_succ ht (by unfold Sm; omega)
          rw [decide_eq_true (show (t : Int) < l.length by omega), cond_true, idx_getD (d := 0) ht, Option.bind_some, appL_one (by omega), Option.bind_some, Option.bind_some, hx, put_eq (by omega) hxn h9, Option.bind_some, e, sub_take (by omega), Option.bind_some, sFrontL_eq h (fun y hy => hr y (List.mem_of_mem_take hy)) (by simp; omega) h9 hG hs, Option.bind_some, sInner h9 (by omega) (by simp; omega), e]
          simp only [polO, polT, hx, Int.toNat_natCast, preP_bq]
        · rintro k s rfl
          simp only [s_ProgramOfLayout_l2]
          rw [decide_eq_false (show ¬ (l.length : Int) < l.length by omega), cond_false]
        · have : listN (polT g l 0) g.1.toNat = [] := by
            have : ∀ n, listN (fun _ => false) n = [] := by
              intro n
              induction n with
              | zero => rfl
              | succ n ih => rw [listN_succ, ih]; rfl
            exact this _
          rw [this]; rfl
      have hI : i_ProgramOfLayout_o_l2 F ⟨nearL g⟩ l F .nil 0 0 0 = some (if l.length = 0 then .nil else .of (polO g l l.length), true) := by
        refine loop_inv (L := fun k t (s : NL Int × Int × Int) => i_ProgramOfLayout_o_l2 F ⟨nearL g⟩ l k s.1 s.2.1 s.2.2 t) (n := l.length) (fun t s => s = ((if t = 0 then .nil else .of (polO g l t)), ((mkm (preP l t) g.1.toNat : Nat) : Int), ((mkm (polT g l t) g.1.toNat : Nat) : Int))) ?_ ?_ F (.nil, 0, 0) hF ?_
        · rintro k t s ht rfl
          obtain ⟨x, hx, hxn⟩ := key t ht
          refine ⟨_, rfl, ?_⟩
          have hpt := hp t
          have hlist : ((if t = 0 then .nil else .of (polO g l t)) : NL Int).list = polO g l t := by
            split
            · rename_i e; subst e; rfl
            · rfl
          have hor : ∀ A : Nat → Bool, ior .i64 ((mkm A g.1.toNat : Nat) : Int) ((2 ^ x : Nat) : Int) = ((mkm (fun j => A j || j == x) g.1.toNat : Nat) : Int) := by
            intro A
            rw [ior_nat (mkm_lt63 (by omega)) (pow_lt (by omega))]
            congr 1
            refine mkm_of fun j => ?_
            rw [Nat.testBit_or, mkm_bit, Nat.testBit_two_pow]
            by_cases e : x = j
            · subst e
              have : decide (x < g.1.toNat) = true := decide_eq_true (by omega)
              rw [this]; simp
            · have h1 : decide (x = j) = false := by simpa using e
              have h2 : (j == x) = false := by simp; omega
              rw [h1, h2]; simp
          have hpre : (fun j => preP l t j || j == x) = preP l (t + 1) := by funext j; rw [pre_succ ht hx]
          have e : w64 ((t : Int) + 1) = ((t + 1 : Nat) : Int) := w64_succ ht (by unfold Sm; omega)
          simp only [i_ProgramOfLayout_o_l2]
          rw [decide_eq_true (show (t : Int) < l.length by omega), cond_true, idx_getD (d := 0) ht, Option.bind_some, hlist, appL_one (by omega), Option.bind_some, hx, one_shl (by omega), Option.bind_some, Option.bind_some, hor, setOf_eq (by omega) h9, Option.bind_some]
          rw [iInner (P := preP l (t + 1)) h h9 (by simp; omega) (by rw [hor, hpre]) ?_, e]
          · simp only [polO, polT, hx, Int.toNat_natCast, Nat.add_one_ne_zero, if_false]
          · intro j hj
            rw [← hpre]
            simp only [Bool.or_eq_true] at hj ⊢
            exact hj.imp (polT_pre t (by omega) (fun y hy => (hr y hy).1) j) id
        · rintro k s rfl
          simp only [i_ProgramOfLayout_o_l2]
          rw [decide_eq_false (show ¬ (l.length : Int) < l.length by omega), cond_false]
        · have : ∀ q : Nat → Bool, (∀ j, q j = false) → mkm q g.1.toNat = 0 := by
            intro q hq
            rw [mkm_congr (q := fun _ => false) (fun j _ => hq j)]
            apply Nat.eq_of_testBit_eq; intro j; rw [mkm_bit]; simp
          rw [this _ (fun j => by simp [preP]), this (polT g l 0) (fun j => rfl)]; rfl
      refine ⟨polO g l l.length, true, if l.length = 0 then .nil else .of (polO g l l.length), ?_, ?_, ?_, by have := hp l.length; omega⟩
      · simp only [Option.bind_some, Bool.not_true, s_ProgramOfLayout_j2, cond_false]
        exact hS
      · simp only [Option.bind_some, Bool.not_true, i_ProgramOfLayout_o_j2, cond_false]
        rw [netOf_eq h hG hs, Option.bind_some]
        exact hI
      · split
        · rename_i e; rw [e]; rfl
        · rfl

end Go.Zq
/- The law ProgramOfLayout, as a plain statement. -/
namespace Go.Zq

theorem lawProgramOfLayout {F : Nat} {g : Gr} {l : List Int} (hF : 2097152 ≤ F) (hg : g.2.length ≤ 9223372036854775807) : w_FnExactProgramOfLayout F g l = some true := by
  unfold w_FnExactProgramOfLayout
  by_cases h : (l.length : Int) > 1048576
  · simp [h]
  simp only [h, decide_false, cond_false]
  rw [szGraph_eq (by omega) (by omega) hg, Option.bind_some]
  by_cases h2 : (1048576 : Int) - g.2.length < 0
  · simp [h2]
  simp only [h2, if_false, decide_false, cond_false]
  obtain ⟨R, b, o, hs, hi, ho, hl⟩ := exProgramOfLayout (F := F) (g := g) (l := l) (by omega) (by omega) (by omega) (by unfold Sm; omega) (by unfold Sm; omega)
  have e1 : w_toGraph F g = some g := toGraph_eq (by omega) (by omega) (by omega)
  have e2 : w_toGraph_o F g = some (g.1, .of g.2) := toGraph_o_eq (by omega) (by omega) (by omega)
  have e3 : w_toIntS F l = some l := toIntS_eq (by omega) (by omega)
  have e4 : w_toIntS_o F l = some (.of l) := toIntS_o_eq (by omega) (by omega)
  have e5 : w_eqIntS F o.list R = some true := by rw [ho]; exact eqIntS_eq (by omega) (by unfold Sm; omega)
  have e6 : w_eqGraph F (g.1, (NL.of g.2).list) g = some true := eqGraph_eq (g := g) (by omega) (by unfold Sm; omega) (by omega)
  have e7 : w_eqIntS F (NL.of l).list l = some true := eqIntS_eq (xs := l) (by omega) (by unfold Sm; omega)
  have e8 : w_markGraph F ⟨g.1, .of g.2⟩ 1 = some (1 + 2 * (g.2.length : Int)) := markGraph_eq (by omega) (by omega) (by omega) (by omega) (by omega)
  obtain ⟨o1, m1, _, _⟩ := markIntS_eq (F := F) (o := .of l) (k := 1 + 2 * (g.2.length : Int)) (by simp only [NL.list]; omega) (by simp only [NL.list]; omega) (by omega) (by omega)
  have e9 : decide ((1 + 2 * (g.2.length : Int) + ((NL.of l).list.length : Int)) < 0) = false := decide_eq_false (by omega)
  obtain ⟨o2, m2, m3, m4⟩ := markIntS_eq (F := F) (o := o) (k := 1) (by rw [ho]; omega) (by rw [ho]; omega) (by omega) (by omega)
  have e10 : w_heldIntS F o2.list 1 = some (1 + (o.list.length : Int)) := by rw [m4]; exact heldIntS_eq (by rw [ho]; omega) (by rw [ho]; omega) (by omega) (by omega)
  have e11 : decide ((1 + (o.list.length : Int)) < 0) = false := decide_eq_false (by omega)
  have hi1 : i_ProgramOfLayout_o F (g.1, (NL.of g.2).list) (NL.of l).list = some (o, b) := hi
  simp only [w_FnExactProgramOfLayout_j1, w_FnExactProgramOfLayout_j2, w_FnExactProgramOfLayout_j3, e1, e2, e3, e4, e5, e6, e7, e8, m1, e9, e10, e11, hs, hi, hi1, m2, m3, Option.bind_some, Bool.not_true, cond_false, bne_self_eq_false]

end Go.Zq
