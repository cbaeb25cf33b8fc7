/- Plain mathematics: what the functions answer (part 2). Conditions: stated in each theorem. -/
import Derived.Test.YtonidecbmdpfhaaM1
set_option linter.unusedVariables false
set_option linter.unusedSimpArgs false
/- Plain mathematics: sets of nodes as lists and as numbers; brambles. -/
namespace Go.Zq

/-- the nodes of a list -/
def bq (l : List Int) (j : Nat) : Bool := decide ((j : Int) ∈ l)

theorem setB_range {n : Int} {l : List Int} (h : setB n l = true) : ∀ x ∈ l, 0 ≤ x ∧ x < n := by
  intro x hx
  obtain ⟨i, hi, e⟩ := List.mem_iff_getElem.1 hx
  have := allN_iff.1 h i hi
  rw [List.getD_eq_getElem?_getD, List.getElem?_eq_getElem hi, Option.getD_some, e] at this
  simp only [Bool.and_eq_true, decide_eq_true_eq] at this
  exact this.1

theorem setB_srt {n : Int} {l : List Int} (h : setB n l = true) : Srt l := by
  have step : ∀ i, i + 1 < l.length → l.getD i 0 < l.getD (i + 1) 0 := by
    intro i hi
    have := allN_iff.1 h (i + 1) hi
    simp only [Bool.and_eq_true, Bool.or_eq_true, decide_eq_true_eq, Nat.add_sub_cancel] at this
    rcases this.2 with h | h
    · simp at h
    · exact h
  have all : ∀ d i, i + d + 1 < l.length → l.getD i 0 < l.getD (i + d + 1) 0 := by
    intro d
    induction d with
    | zero => intro i hi; exact step i hi
    | succ d ih =>
      intro i hi
      have h1 := ih i (by omega)
      have h2 := step (i + d + 1) (by omega)
      have : i + (d + 1) + 1 = i + d + 1 + 1 := by omega
      rw [this]; omega
  unfold Srt
  rw [List.pairwise_iff_getElem]
  intro i j hi hj hij
  have := all (j - i - 1) i (by omega)
  have e : i + (j - i - 1) + 1 = j := by omega
  rw [e, List.getD_eq_getElem?_getD, List.getD_eq_getElem?_getD, List.getElem?_eq_getElem hi, List.getElem?_eq_getElem hj] at this
  exact this

theorem setB_listN {g : Gr} {l : List Int} (h : setB g.1 l = true) : l = listN (bq l) g.1.toNat := by
  refine srt_listN (setB_srt h) fun y => ?_
  constructor
  · intro hy
    have := setB_range h y hy
    refine ⟨y.toNat, by omega, by omega, ?_⟩
    unfold bq
    rw [decide_eq_true_eq, Int.toNat_of_nonneg this.1]; exact hy
  · rintro ⟨j, rfl, _, h⟩
    exact of_decide_eq_true h

theorem bq_lt {g : Gr} {l : List Int} (h : setB g.1 l = true) {j : Nat} (hj : bq l j = true) : j < g.1.toNat := by
  have := setB_range h _ (of_decide_eq_true hj)
  omega

theorem maskSet {F : Nat} {g : Gr} {l : List Int} (hg : good g = true) (h : setB g.1 l = true) (hF : l.length < F) (hl : Sm l.length) : i_maskOf F l = some ((mkm (bq l) g.1.toNat : Nat) : Int) := by
  have h8 := good_size hg
  obtain ⟨m, h1, h2⟩ := maskOf_eq hF hl (fun x hx => by have := setB_range h x hx; omega)
  rw [h1]
  congr 2
  refine mkm_of fun j => ?_
  rw [h2.2]
  show bq l j = _
  cases hb : bq l j with
  | false => rw [Bool.and_false]
  | true => rw [decide_eq_true (bq_lt h hb)]; rfl

end Go.Zq
/- Plain mathematics: own copies of arguments; lists that are marked. -/
namespace Go.Zq

theorem toIntS_o_eq {F : Nat} {xs : List Int} (hF : xs.length < F) (hl : xs.length ≤ 1099511627776) : w_toIntS_o F xs = some (.of xs) := by
  unfold w_toIntS_o
  rw [mkN_nat hl, Option.bind_some]
  refine loop_inv (L := fun k i s => w_toIntS_o_l1 F xs k s i) (n := xs.length) (fun i ys => ys.length = xs.length ∧ ys.take i = xs.take i) ?_ ?_ F _ hF (by simp)
  · intro k i s hi hI
    refine ⟨_, copied hI hi, ?_⟩
    simp only [w_toIntS_o_l1]
    rw [idx_nat hi, idx_nat (by omega), w64_succ hi (by unfold Sm; omega)]
    simp [hi]
  · intro k s hI
    simp only [w_toIntS_o_l1]
    rw [copied_end hI]; simp

theorem toIntA2S_o_eq {F : Nat} {xs : List (Int × Int)} (hF : xs.length < F) (hl : xs.length ≤ 1099511627776) (h3 : 3 ≤ F) : w_toIntA2S_o F xs = some (.of xs) := by
  unfold w_toIntA2S_o
  rw [mkN_nat hl, Option.bind_some]
  refine loop_inv (L := fun k i s => w_toIntA2S_o_l1 F xs k s i) (n := xs.length) (fun i ys => ys.length = xs.length ∧ ys.take i = xs.take i) ?_ ?_ F _ hF (by simp)
  · intro k i s hi hI
    refine ⟨_, copied hI hi, ?_⟩
    simp only [w_toIntA2S_o_l1]
    rw [idx_nat hi, idx_nat (by omega), w64_succ hi (by unfold Sm; omega)]
    simp [hi, toIntA2_eq h3]
  · intro k s hI
    simp only [w_toIntA2S_o_l1]
    rw [copied_end hI]; simp

theorem toGraph_o_eq {F : Nat} {g : Int × List (Int × Int)} (hF : g.2.length < F) (hl : g.2.length ≤ 1099511627776) (h3 : 3 ≤ F) : w_toGraph_o F g = some (g.1, .of g.2) := by
  unfold w_toGraph_o
  rw [toIntA2S_o_eq hF hl h3]; rfl

/-- what a marked list is -/
def mkd (n : Nat) (k : Int) : List Int := (List.range n).map fun (i : Nat) => k + (i : Int)
theorem mkd_length {n : Nat} {k : Int} : (mkd n k).length = n := by simp [mkd]
theorem mkd_get {n i : Nat} {k : Int} (h : i < n) : idx (mkd n k) (i : Int) = some (k + i) := by
  rw [idx_nat (by rw [mkd_length]; exact h)]
  simp [mkd]

theorem markIntS_eq {F : Nat} {o : NL Int} {k : Int} (hF : o.list.length < F) (hl : o.list.length ≤ 1099511627776) (h0 : 0 ≤ k) (hk : k ≤ 4611686018427387904) :
    ∃ o', w_markIntS F ⟨o⟩ k = some (k + o.list.length, o') ∧ remark o o' = some o' ∧ o'.list = mkd o.list.length k := by
  cases o with
  | nil =>
    obtain ⟨j, rfl⟩ : ∃ j, F = j + 1 := ⟨F - 1, by omega⟩
    exact ⟨.nil, by simp [w_markIntS, w_markIntS_l1, NL.list], rfl, by simp [NL.list, mkd]⟩
  | of xs =>
    simp only [NL.list] at hF hl ⊢
    obtain ⟨s, ⟨ys, h1, h2, h3, h4⟩, h5⟩ := loop_ex (L := fun j i (s : NL Int × Int) => w_markIntS_l1 F j s.1 s.2 i) (n := xs.length) (fin := fun s => some (s.2, s.1))
      (fun i s => ∃ ys : List Int, s.1 = .of ys ∧ ys.length = xs.length ∧ s.2 = k + i ∧ ∀ j, j < i → ys[j]? = some (k + (j : Int)))
      (by
        rintro j i ⟨a, b⟩ hi ⟨ys, rfl, h2, rfl, h4⟩
        refine ⟨(.of (ys.set i (k + i)), k + ((i + 1 : Nat) : Int)), ⟨_, rfl, by simp [h2], rfl, ?_⟩, ?_⟩
        · intro m hm
          rw [List.getElem?_set]
          by_cases e : i = m
          · subst e; simp [h2, hi]
          · simp only [e, if_false]; exact h4 m (by omega)
        · simp only [w_markIntS_l1, NL.list]
          have : decide ((i : Int) < (ys.length : Int)) = true := by simp; omega
          change (bif decide ((i : Int) < (ys.length : Int)) then _ else _) = _
          rw [this, cond_true, idx_nat (by omega), Option.bind_some, w64_succ hi (by unfold Sm; omega), w64_id (x := k + i + 1) (by omega) (by omega)]
          simp only [NL.set, Int.toNat_natCast]
          congr 1
          omega)
      (by
        rintro j ⟨a, b⟩ ⟨ys, rfl, h2, rfl, h4⟩
        simp only [w_markIntS_l1, NL.list, h2]
        simp) F (.of xs, k) hF ⟨xs, rfl, rfl, by simp, by simp⟩
    obtain ⟨a, b⟩ := s
    simp only at h1 h3 h5
    subst h1; subst h3
    refine ⟨.of ys, ?_, by simp [remark, h2], ?_⟩
    · unfold w_markIntS; exact h5
    · simp only [NL.list]
      apply List.ext_getElem?
      intro i
      by_cases hi : i < xs.length
      · rw [h4 i hi]; simp [mkd, hi]
      · rw [List.getElem?_eq_none (by omega), List.getElem?_eq_none (by rw [mkd_length]; omega)]

theorem heldIntS_eq {F n : Nat} {k : Int} (hF : n < F) (hl : n ≤ 1099511627776) (h0 : 0 ≤ k) (hk : k ≤ 4611686018427387904) : w_heldIntS F (mkd n k) k = some (k + n) := by
  unfold w_heldIntS
  refine loop_inv (L := fun j i s => w_heldIntS_l1 F (mkd n k) j s i) (n := n) (fun i s => s = k + (i : Int)) ?_ ?_ F _ hF (by simp)
  · rintro j i s hi rfl
    refine ⟨_, rfl, ?_⟩
    simp only [w_heldIntS_l1, mkd_length]
    have : decide ((i : Int) < (n : Int)) = true := by simpa using hi
    rw [this, cond_true, mkd_get hi, Option.bind_some, w64_succ hi (by unfold Sm; omega), w64_id (x := k + i + 1) (by omega) (by omega)]
    simp only [bne_self_eq_false, cond_false]
    congr 1
    omega
  · rintro j s rfl
    simp only [w_heldIntS_l1, mkd_length]
    simp

theorem set2_length {α : Type} {xs : List (α × α)} {i : Nat} {j : Int} {b : α} : (set2 xs i j b).length = xs.length := by
  unfold set2
  split <;> simp

theorem markGraph_eq {F : Nat} {a : Int} {xs : List (Int × Int)} {k : Int} (hF : xs.length < F) (h3 : 3 ≤ F) (hl : xs.length ≤ 1099511627776) (h0 : 0 ≤ k) (hk : k ≤ 4611686018427387904) :
    w_markGraph F ⟨a, .of xs⟩ k = some (k + 2 * xs.length) := by
  obtain ⟨s, ⟨ys, h1, h2, h4⟩, h5⟩ := loop_ex (L := fun j i (s : NL (Int × Int) × Int) => w_markIntA2S_l2 F j s.1 s.2 i) (n := xs.length) (fin := fun s => some (s.2, s.1))
      (fun i s => ∃ ys : List (Int × Int), s.1 = .of ys ∧ ys.length = xs.length ∧ s.2 = k + 2 * (i : Int))
      (by
        rintro j i ⟨a, b⟩ hi ⟨ys, rfl, h2, rfl⟩
        refine ⟨(.of (set2 (set2 ys i 0 (k + 2 * i)) i 1 (k + 2 * i + 1)), k + 2 * ((i + 1 : Nat) : Int)), ⟨_, rfl, by simp [set2_length, h2], rfl⟩, ?_⟩
        simp only [w_markIntA2S_l2, NL.list]
        have : decide ((i : Int) < (ys.length : Int)) = true := by simp; omega
        change (bif decide ((i : Int) < (ys.length : Int)) then _ else _) = _
        rw [this, cond_true]
        obtain ⟨f, rfl⟩ : ∃ f, F = f + 3 := ⟨F - 3, by omega⟩
        rw [w_markIntA2S_l1]
        simp only [NL.list]
        rw [idx_nat (by omega)]
        rw [show (decide ((0 : Int) < 2)) = true from rfl, cond_true, Option.bind_some]
        rw [show idx [(ys[i]'(by omega)).1, (ys[i]'(by omega)).2] 0 = some (ys[i]'(by omega)).1 from rfl, Option.bind_some]
        rw [show w64 (0 + 1) = 1 from by decide, w64_id (x := k + 2 * i + 1) (by omega) (by omega)]
        simp only [NL.set2, Int.toNat_natCast]
        rw [w_markIntA2S_l1]
        simp only [NL.list]
        rw [idx_nat (by rw [set2_length]; omega)]
        rw [show (decide ((1 : Int) < 2)) = true from rfl, cond_true, Option.bind_some]
        rw [show ∀ u v : Int, idx [u, v] 1 = some v from fun _ _ => rfl, Option.bind_some]
        rw [show w64 (1 + 1) = 2 from by decide, w64_id (x := k + 2 * i + 1 + 1) (by omega) (by omega)]
        simp only [NL.set2, Int.toNat_natCast]
        rw [w_markIntA2S_l1]
        rw [show (decide ((2 : Int) < 2)) = false from rfl, cond_false, w64_succ hi (by unfold Sm; omega)]
        congr 1
        omega)
      (by
        rintro j ⟨a, b⟩ ⟨ys, rfl, h2, rfl⟩
        simp only [w_markIntA2S_l2, NL.list, h2]
        simp) F (.of xs, k) hF ⟨xs, rfl, rfl, by simp⟩
  obtain ⟨u, b⟩ := s
  simp only at h1 h4 h5
  subst h1; subst h4
  unfold w_markGraph w_markIntA2S
  rw [h5]; rfl

end Go.Zq
/- Plain mathematics: fronts, as lists of one's own. -/
namespace Go.Zq

theorem ex_of_map {α β : Type} {f : α → β} {a : Option β} {b : Option α} {r : β} (h : a = b.map f) (hr : a = some r) : ∃ o, b = some o ∧ f o = r := by
  rw [hr] at h
  cases b with
  | none => cases h
  | some o => simp at h; exact ⟨o, rfl, h.symm⟩
theorem map_cond {α β : Type} {f : α → β} {t : Bool} {a b : Option α} : (bif t then a else b).map f = bif t then a.map f else b.map f := by cases t <;> rfl

theorem setOf_l1_map {F : Nat} {s : Int} : ∀ (k : Nat) (l : NL Int) (i : Int), i_setOf_l1 F s k l i = (i_setOf_o_l1 F s k l i).map NL.list
  | 0, l, i => rfl
  | k + 1, l, i => by
    simp only [i_setOf_l1, i_setOf_o_l1, i_setOf_j1, i_setOf_o_j1, Option.map_bind, map_cond, setOf_l1_map k, Function.comp_def, Option.map_some]

theorem setOf_o_eq {F n : Nat} {p : Nat → Bool} (hn : n ≤ 8) (hF : 20 ≤ F) : ∃ o, i_setOf_o F ((mkm p n : Nat) : Int) = some o ∧ o.list = listN p n :=
  ex_of_map (setOf_l1_map F .nil 0) (setOf_eq hn hF)

theorem listN_le {p : Nat → Bool} {n : Nat} : (listN p n).length ≤ n := by rw [listN_len]; exact cnt_le

theorem exFrontOf {F : Nat} {g : Gr} {l : List Int} (hF : l.length < F) (hG : g.2.length < F) (h9 : 20 ≤ F) (hl : Sm l.length) (hs : Sm g.2.length) :
    ∃ R b o, s_FrontOf F g l = some (R, b) ∧ i_FrontOf_o F g l = some (o, b) ∧ o.list = R ∧ R.length ≤ 8 := by
  unfold s_FrontOf i_FrontOf_o
  rw [l2Good_eq hG hs, Option.bind_some]
  cases h : good g with
  | false =>
    refine ⟨[], false, .nil, rfl, ?_, rfl, by simp⟩
    unfold i_isSet i_hasNodes
    rw [isGraph_eq hG (by omega) hs, Option.bind_some, h]; rfl
  | true =>
    have h8 := good_size h
    simp only [Bool.not_true, cond_false]
    rw [l2Set_eq h hF hl, isSet_eq h hF hl hG hs (by omega), Option.bind_some, Option.bind_some]
    cases ho : setB g.1 l with
    | false => exact ⟨[], false, .nil, rfl, rfl, rfl, by simp⟩
    | true =>
      obtain ⟨o, h1, h2⟩ := setOf_o_eq (F := F) (n := g.1.toNat) (p := frt g (bq l)) (by omega) h9
      refine ⟨listN (frt g (bq l)) g.1.toNat, true, o, ?_, ?_, h2, by have := listN_le (p := frt g (bq l)) (n := g.1.toNat); omega⟩
      · simp only [s_FrontOf_j1, Bool.not_true, cond_false]
        have e := sFront_eq (p := bq l) h h9 hG hs
        rw [← setB_listN ho] at e
        rw [e, Option.bind_some]
      · simp only [Bool.not_true, cond_false]
        rw [netOf_eq h hG hs, Option.bind_some, maskSet h ho hF hl, Option.bind_some, iFront_eq h h9, Option.bind_some, h1, Option.bind_some]

end Go.Zq
/- The law FrontOf, as a plain statement. -/
namespace Go.Zq

theorem lawFrontOf {F : Nat} {g : Gr} {l : List Int} (hF : 2097152 ≤ F) (hg : g.2.length ≤ 9223372036854775807) : w_FnExactFrontOf F g l = some true := by
  unfold w_FnExactFrontOf
  by_cases h : (l.length : Int) > 1048576
  · simp [h]
  simp only [h, decide_false, cond_false]
  rw [szGraph_eq (by omega) (by omega) hg, Option.bind_some]
  by_cases h2 : (1048576 : Int) - g.2.length < 0
  · simp [h2]
  simp only [h2, if_false, decide_false, cond_false]
  obtain ⟨R, b, o, hs, hi, ho, hl⟩ := exFrontOf (F := F) (g := g) (l := l) (by omega) (by omega) (by omega) (by unfold Sm; omega) (by unfold Sm; omega)
  have e1 : w_toGraph F g = some g := toGraph_eq (by omega) (by omega) (by omega)
  have e2 : w_toGraph_o F g = some (g.1, .of g.2) := toGraph_o_eq (by omega) (by omega) (by omega)
  have e3 : w_toIntS F l = some l := toIntS_eq (by omega) (by omega)
  have e4 : w_toIntS_o F l = some (.of l) := toIntS_o_eq (by omega) (by omega)
  have e5 : w_eqIntS F o.list R = some true := by rw [ho]; exact eqIntS_eq (by omega) (by unfold Sm; omega)
  have e6 : w_eqGraph F (g.1, (NL.of g.2).list) g = some true := eqGraph_eq (g := g) (by omega) (by unfold Sm; omega) (by omega)
  have e7 : w_eqIntS F (NL.of l).list l = some true := eqIntS_eq (xs := l) (by omega) (by unfold Sm; omega)
  have e8 : w_markGraph F ⟨g.1, .of g.2⟩ 1 = some (1 + 2 * (g.2.length : Int)) := markGraph_eq (by omega) (by omega) (by omega) (by omega) (by omega)
  obtain ⟨o1, m1, _, _⟩ := markIntS_eq (F := F) (o := .of l) (k := 1 + 2 * (g.2.length : Int)) (by simp only [NL.list]; omega) (by simp only [NL.list]; omega) (by omega) (by omega)
  have e9 : decide ((1 + 2 * (g.2.length : Int) + ((NL.of l).list.length : Int)) < 0) = false := decide_eq_false (by omega)
  obtain ⟨o2, m2, m3, m4⟩ := markIntS_eq (F := F) (o := o) (k := 1) (by rw [ho]; omega) (by rw [ho]; omega) (by omega) (by omega)
  have e10 : w_heldIntS F o2.list 1 = some (1 + (o.list.length : Int)) := by rw [m4]; exact heldIntS_eq (by rw [ho]; omega) (by rw [ho]; omega) (by omega) (by omega)
  have e11 : decide ((1 + (o.list.length : Int)) < 0) = false := decide_eq_false (by omega)
  have hi1 : i_FrontOf_o F (g.1, (NL.of g.2).list) (NL.of l).list = some (o, b) := hi
  simp only [w_FnExactFrontOf_j1, w_FnExactFrontOf_j2, w_FnExactFrontOf_j3, e1, e2, e3, e4, e5, e6, e7, e8, m1, e9, e10, e11, hs, hi, hi1, m2, m3, Option.bind_some, Bool.not_true, cond_false, bne_self_eq_false]

end Go.Zq
