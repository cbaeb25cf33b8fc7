/- Plain mathematics: what the functions answer (part 2). Conditions: stated in each theorem. -/
import Derived.Test.YtodihaaheneikaaM1
set_option linter.unusedVariables false
set_option linter.unusedSimpArgs false
/- Plain mathematics: decompositions. -/
namespace Go.Zq

abbrev DC := List (List Int) × List (Int × Int)
abbrev treeOf (d : DC) : Gr := ((d.1.length : Int), d.2)

/-- a node's bags are one part of the tree -/
def nodP (d : DC) (x : Nat) : Bool := (prt (treeOf d) d.1.length (fun i => inB d.1 (x : Int) i)).length == 1
def edgP (g : Gr) (d : DC) (i : Nat) : Bool := anyN (fun t => inB d.1 (g.2.getD i (0, 0)).1 t && inB d.1 (g.2.getD i (0, 0)).2 t) d.1.length
def dcB (g : Gr) (d : DC) : Bool :=
  (decide (1 ≤ d.1.length) && good (treeOf d) && (d.2.length + 1 == d.1.length) && ((prt (treeOf d) d.1.length (fun _ => true)).length == 1)) && allN (fun i => setB g.1 (d.1.getD i [])) d.1.length && allN (nodP d) g.1.toNat && allN (edgP g d) g.2.length

structure Dg (F : Nat) (d : DC) : Prop where
  bg : Bg F d.1
  tl : d.2.length ≤ 1048576

theorem inAll {bags : List (List Int)} {l : List Int} {i : Nat} (h : l.length ≤ 2) : allN (fun k => inB bags (l.getD k 0) i) l.length = l.all fun x => inB bags x i := by
  match l, h with
  | [], _ => rfl
  | [a], _ => simp [allN]
  | [a, b], _ => simp [allN]

theorem with_eq {F : Nat} {d : DC} {l : List Int} (hd : Dg F d) (h8 : d.1.length ≤ 8) (hl : l.length ≤ 2) : s_l5With F d l = some (listN (fun i => l.all fun x => inB d.1 x i) d.1.length) := by
  have hf := hd.bg.fuel
  unfold s_l5With
  refine loop_inv (L := fun k i s => s_l5With_l2 F l d k s i) (n := d.1.length) (fun i s => s = listN (fun i => l.all fun x => inB d.1 x i) i) ?_ ?_ F _ (by omega) rfl
  · intro k i s hi hI
    subst hI
    refine ⟨_, rfl, ?_⟩
    have hc := cnt_le (p := fun i => l.all fun x => inB d.1 x i) (n := i)
    simp only [s_l5With_l2]
    rw [decide_eq_true (show (i : Int) < (d.1.length : Int) by omega), cond_true]
    refine loop_inv (L := fun k2 t (s : Bool) => s_l5With_l1 F l d (listN (fun i => l.all fun x => inB d.1 x i) i) (i : Int) (s_l5With_l2 F l d k) k2 s t) (n := l.length) (fun t s => s = allN (fun k => inB d.1 (l.getD k 0) i) t) ?_ ?_ F _ (by omega) rfl
    · intro k2 t s ht hI
      subst hI
      refine ⟨_, rfl, ?_⟩
      simp only [s_l5With_l1, s_l5With_j1]
      rw [decide_eq_true (show (t : Int) < (l.length : Int) by omega), cond_true, idx_getD (d := []) hi, Option.bind_some, idx_getD (d := 0) ht, Option.bind_some, bagHas hd.bg hi, Option.bind_some, w64_succ ht (by unfold Sm; omega)]
      simp only [allN]
      cases allN (fun k => inB d.1 (l.getD k 0) i) t <;> rfl
    · intro k2 s hI
      subst hI
      simp only [s_l5With_l1, s_l5With_j2]
      rw [decide_eq_false (show ¬ (l.length : Int) < (l.length : Int) by omega), cond_false, inAll hl, listN_succ, w64_succ hi (by unfold Sm; omega)]
      cases l.all fun x => inB d.1 x i with
      | true => rw [cond_true, appL_one (by rw [listN_len]; omega), Option.bind_some]; rfl
      | false => rw [cond_false]; simp
  · intro k s hI
    subst hI
    simp only [s_l5With_l2]
    rw [decide_eq_false (show ¬ (d.1.length : Int) < (d.1.length : Int) by omega), cond_false]

theorem numbers_eq {F n : Nat} (hn : n ≤ 8) (hF : 20 ≤ F) : s_l5Numbers F (n : Int) = some (listN (fun _ => true) n) := by
  unfold s_l5Numbers
  refine loop_inv (L := fun k i s => s_l5Numbers_l1 F (n : Int) k s i) (n := n) (fun i s => s = listN (fun _ => true) i) ?_ ?_ F _ (by omega) rfl
  · intro k i s hi hI
    subst hI
    refine ⟨_, rfl, ?_⟩
    have hc := cnt_le (p := fun _ => true) (n := i)
    simp only [s_l5Numbers_l1]
    rw [decide_eq_true (show (i : Int) < (n : Int) by omega), cond_true, appL_one (by rw [listN_len]; omega), Option.bind_some, listN_succ, w64_succ hi (by unfold Sm; omega)]
    rfl
  · intro k s hI
    subst hI
    simp only [s_l5Numbers_l1]
    rw [decide_eq_false (show ¬ (n : Int) < (n : Int) by omega), cond_false]

theorem cnt_true {n : Nat} : cntN (fun _ => true) n = n := by
  induction n with
  | zero => rfl
  | succ n ih => rw [cntN, List.range_succ, List.countP_append, ← cntN, ih]; rfl

/-- the tree is one -/
def trB (d : DC) : Bool := decide (1 ≤ d.1.length) && good (treeOf d) && (d.2.length + 1 == d.1.length) && ((prt (treeOf d) d.1.length (fun _ => true)).length == 1)

theorem shape_eq {F : Nat} {g : Gr} {d : DC} (hg : good g = true) (hd : Dg F d) : s_l5Shape F g d = some (trB d && allN (fun i => setB g.1 (d.1.getD i [])) d.1.length) := by
  have hf := hd.bg.fuel
  have hl := hd.bg.len
  have ht := hd.tl
  unfold s_l5Shape s_l5Shape_j2
  rw [l1In_eq, Option.bind_some]
  by_cases hn : 1 ≤ d.1.length ∧ d.1.length ≤ 8
  · rw [decide_eq_true (show (1 : Int) ≤ (d.1.length : Int) by omega), decide_eq_true (show (d.1.length : Int) ≤ 8 by omega), Bool.and_self, Bool.not_true, cond_false]
    have hw : w64 ((d.1.length : Int) - 1) = (d.1.length : Int) - 1 := w64_id (by omega) (by omega)
    have hne : ((d.2.length : Int) != (d.1.length : Int) - 1) = !(d.2.length + 1 == d.1.length) := by
      by_cases h : d.2.length + 1 = d.1.length
      · have h1 : (d.2.length : Int) = (d.1.length : Int) - 1 := by omega
        rw [h1, h]; simp
      · have h1 : (d.2.length : Int) ≠ (d.1.length : Int) - 1 := by omega
        have h2 : (d.2.length + 1 == d.1.length) = false := by simpa using h
        rw [h2]; simpa using h1
    rw [hw, hne]
    unfold trB
    rw [decide_eq_true hn.1, Bool.true_and]
    cases hlen : (d.2.length + 1 == d.1.length) with
    | false => simp
    | true =>
      have hlen' : d.2.length + 1 = d.1.length := by simpa using hlen
      rw [Bool.not_true, cond_false, Bool.and_true]
      rw [loop_all (L := fun k i => s_l5Shape_l2 F g d k i) (n := d.1.length) (p := fun i => setB g.1 (d.1.getD i [])) (bad := some false) (fin := some (good (treeOf d) && ((prt (treeOf d) d.1.length (fun _ => true)).length == 1))) ?_ ?_ F (by omega)]
      · cases allN (fun i => setB g.1 (d.1.getD i [])) d.1.length <;> simp
      · intro k i hi
        have h1 := hd.bg.at hi
        simp only [s_l5Shape_l2]
        rw [decide_eq_true (show (i : Int) < (d.1.length : Int) by omega), cond_true, idx_getD (d := []) hi, Option.bind_some, l2Set_eq hg (by omega) (by unfold Sm; omega), Option.bind_some, w64_succ hi (by unfold Sm; omega)]
        cases setB g.1 (d.1.getD i []) <;> rfl
      · intro k
        simp only [s_l5Shape_l2]
        rw [decide_eq_false (show ¬ (d.1.length : Int) < (d.1.length : Int) by omega), cond_false]
        have hgood : good (treeOf d) = allN (okE (d.1.length : Int) d.2) d.2.length := by
          unfold good
          simp only [treeOf]
          rw [decide_eq_true (show (0 : Int) ≤ (d.1.length : Int) by omega), decide_eq_true (show (d.1.length : Int) ≤ 8 by omega)]; rfl
        rw [loop_all (L := fun k i => s_l5Shape_l1 F d k i) (n := d.2.length) (p := okE (d.1.length : Int) d.2) (bad := some false) (fin := (s_l5Numbers F (d.1.length : Int)).bind fun r_31 => (s_l5Joined F d.2 r_31).bind fun r_32 => some r_32) ?_ ?_ F (by omega)]
        · rw [← hgood]
          cases hT : good (treeOf d) with
          | false => rfl
          | true =>
            rw [cond_true, Bool.true_and, numbers_eq (by omega) (by omega), Option.bind_some]
            have hj := joined_eq (F := F) (T := treeOf d) (p := fun _ => true) hT (by omega) (show d.2.length < F by omega) (show Sm d.2.length by unfold Sm; omega)
            simp only [treeOf, Int.toNat_natCast] at hj
            rw [hj, Option.bind_some, cnt_true]
            have : (d.1.length == 0) = false := by rw [beq_eq_false_iff_ne]; omega
            rw [this, Bool.false_or]
        · intro k i hi
          simp only [s_l5Shape_l1, s_l5Shape_j1]
          rw [decide_eq_true (show (i : Int) < (d.2.length : Int) by omega), cond_true, idx_getD (d := (0, 0)) hi, Option.bind_some, w64_succ hi (by unfold Sm; omega)]
          unfold okE
          by_cases h1 : (d.2.getD i (0, 0)).1 < 0
          · rw [decide_eq_true h1, decide_eq_false (show ¬ 0 ≤ (d.2.getD i (0, 0)).1 by omega)]; rfl
          · rw [decide_eq_false h1, cond_false, decide_eq_true (show 0 ≤ (d.2.getD i (0, 0)).1 by omega), Bool.true_and]
            by_cases h2 : (d.2.getD i (0, 0)).1 < (d.2.getD i (0, 0)).2
            · rw [decide_eq_false (show ¬ (d.2.getD i (0, 0)).1 ≥ (d.2.getD i (0, 0)).2 by omega), cond_false, decide_eq_true h2, Bool.true_and]
              by_cases h3 : (d.2.getD i (0, 0)).2 < (d.1.length : Int)
              · rw [decide_eq_false (show ¬ (d.2.getD i (0, 0)).2 ≥ (d.1.length : Int) by omega), cond_false, decide_eq_true h3, Bool.true_and]
                by_cases h0 : i = 0
                · subst h0; rfl
                · rw [decide_eq_true (show (i : Int) > 0 by omega), cond_true, w64_pred (by omega) hi (by unfold Sm; omega), idx_getD (d := (0, 0)) (by omega), Option.bind_some, l2Before_eq, Option.bind_some]
                  have h0' : (i == 0) = false := by simpa using h0
                  rw [h0', Bool.false_or]
                  cases bef (d.2.getD (i - 1) (0, 0)) (d.2.getD i (0, 0)) <;> rfl
              · rw [decide_eq_true (show (d.2.getD i (0, 0)).2 ≥ (d.1.length : Int) by omega), decide_eq_false h3]; rfl
            · rw [decide_eq_true (show (d.2.getD i (0, 0)).1 ≥ (d.2.getD i (0, 0)).2 by omega), decide_eq_false h2]; rfl
        · intro k
          simp only [s_l5Shape_l1]
          rw [decide_eq_false (show ¬ (d.2.length : Int) < (d.2.length : Int) by omega), cond_false]
  · have h1 : (decide ((1 : Int) ≤ (d.1.length : Int)) && decide ((d.1.length : Int) ≤ 8)) = false := by
      rw [Bool.eq_false_iff]; intro h
      simp only [Bool.and_eq_true, decide_eq_true_eq] at h
      exact hn (by omega)
    have h2 : trB d = false := by
      rw [Bool.eq_false_iff]; intro h
      unfold trB at h
      simp only [Bool.and_eq_true, decide_eq_true_eq] at h
      have := good_size h.1.1.2
      simp only [treeOf] at this
      exact hn (by omega)
    rw [h1, h2]; rfl

theorem trB_n {d : DC} (h : trB d = true) : 1 ≤ d.1.length ∧ d.1.length ≤ 8 ∧ good (treeOf d) = true ∧ d.2.length + 1 = d.1.length := by
  unfold trB at h
  simp only [Bool.and_eq_true, decide_eq_true_eq, beq_iff_eq] at h
  have := good_size h.1.1.2
  simp only [treeOf] at this
  exact ⟨h.1.1.1, by omega, h.1.1.2, h.1.2⟩

theorem cnt0_any {p : Nat → Bool} {n : Nat} : (cntN p n == 0) = !anyN p n := by
  rw [anyN_eq, Bool.not_not, Bool.eq_iff_iff, beq_iff_eq, allN_iff]
  constructor
  · intro h j hj
    cases hp : p j with
    | false => rfl
    | true =>
      have := cnt_lt (p := fun _ => false) (q := p) (n := n) (by simp) ⟨j, hj, rfl, hp⟩
      omega
  · intro h
    rw [cnt_congr (q := fun _ => false) (fun j hj => by simpa using h j hj)]
    unfold cntN
    rw [List.countP_eq_zero]; simp

theorem sDC_eq {F : Nat} {g : Gr} {d : DC} (hg : good g = true) (hd : Dg F d) (hG : g.2.length < F) (hs : Sm g.2.length) : s_l5Good F g d = some (dcB g d) := by
  have hf := hd.bg.fuel
  have hl := hd.bg.len
  have htl := hd.tl
  have h8 := good_size hg
  unfold s_l5Good
  rw [shape_eq hg hd, Option.bind_some]
  have hdc : dcB g d = ((trB d && allN (fun i => setB g.1 (d.1.getD i [])) d.1.length) && allN (nodP d) g.1.toNat && allN (edgP g d) g.2.length) := rfl
  rw [hdc]
  cases hc : (trB d && allN (fun i => setB g.1 (d.1.getD i [])) d.1.length) with
  | false => rfl
  | true =>
    rw [Bool.and_eq_true] at hc
    obtain ⟨hn1, hn8, hT, hlen⟩ := trB_n hc.1
    rw [Bool.not_true, cond_false, Bool.true_and]
    rw [loop_all (L := fun k i => s_l5Good_l2 F g d k i) (n := g.1.toNat) (p := nodP d) (bad := some false) (fin := some (allN (edgP g d) g.2.length)) ?_ ?_ F (by omega)]
    · cases allN (nodP d) g.1.toNat <;> rfl
    · intro k x hx
      simp only [s_l5Good_l2, s_l5Good_j1]
      rw [decide_eq_true (show (x : Int) < g.1 by omega), cond_true, with_eq hd hn8 (by simp), Option.bind_some, listN_len, w64_succ hx (by unfold Sm; omega)]
      have hj := joined_eq (F := F) (T := treeOf d) (p := fun i => [(x : Int)].all fun x => inB d.1 x i) hT (by omega) (show d.2.length < F by omega) (show Sm d.2.length by unfold Sm; omega)
      simp only [treeOf, Int.toNat_natCast] at hj
      have hfun : (fun i => [(x : Int)].all fun x => inB d.1 x i) = fun i => inB d.1 (x : Int) i := by funext i; simp
      rw [hj, Option.bind_some, hfun]
      unfold nodP
      have hz : ((cntN (fun i => inB d.1 (x : Int) i) d.1.length : Int) == 0) = (cntN (fun i => inB d.1 (x : Int) i) d.1.length == 0) := by
        rw [Bool.eq_iff_iff, beq_iff_eq, beq_iff_eq]; omega
      rw [hz]
      cases h0 : (cntN (fun i => inB d.1 (x : Int) i) d.1.length == 0) with
      | true =>
        have : (prt (treeOf d) d.1.length (fun i => inB d.1 (x : Int) i)).length = 0 := by
          rw [cnt0_any, Bool.not_eq_true', anyN_eq, Bool.not_eq_false'] at h0
          have h1 := allN_iff.1 h0
          have hno : fstN (fun i => inB d.1 (x : Int) i) (treeOf d).1.toNat = none := by
            rw [fst_none]
            intro j hj
            simp only [treeOf, Int.toNat_natCast] at hj
            simpa using h1 j hj
          obtain ⟨m, hm⟩ : ∃ m, d.1.length = m + 1 := ⟨d.1.length - 1, by omega⟩
          have hno' : fstN (fun i => inB d.1 (x : Int) i) d.1.length = none := by simpa only [treeOf, Int.toNat_natCast] using hno
          rw [hm] at hno'
          rw [hm]
          simp only [prt, treeOf, Int.toNat_natCast, hm, hno', List.length_nil]
        rw [this]; rfl
      | false =>
        rw [cond_false, Bool.false_or]
        cases ((prt (treeOf d) d.1.length (fun i => inB d.1 (x : Int) i)).length == 1) <;> rfl
    · intro k
      simp only [s_l5Good_l2]
      rw [decide_eq_false (show ¬ (g.1.toNat : Int) < g.1 by omega), cond_false]
      rw [loop_all (L := fun k i => s_l5Good_l1 F g d k i) (n := g.2.length) (p := edgP g d) (bad := some false) (fin := some true) ?_ ?_ F hG]
      · cases allN (edgP g d) g.2.length <;> rfl
      · intro k i hi
        simp only [s_l5Good_l1]
        rw [decide_eq_true (show (i : Int) < (g.2.length : Int) by omega), cond_true, idx_getD (d := (0, 0)) hi, Option.bind_some, Option.bind_some, with_eq hd hn8 (by simp), Option.bind_some, listN_len, w64_succ hi hs]
        have hfun : (fun t => [(g.2.getD i (0, 0)).1, (g.2.getD i (0, 0)).2].all fun x => inB d.1 x t) = fun t => inB d.1 (g.2.getD i (0, 0)).1 t && inB d.1 (g.2.getD i (0, 0)).2 t := by funext t; simp
        rw [hfun]
        have hz : ((cntN (fun t => inB d.1 (g.2.getD i (0, 0)).1 t && inB d.1 (g.2.getD i (0, 0)).2 t) d.1.length : Int) == 0) = !edgP g d i := by
          rw [show edgP g d i = anyN (fun t => inB d.1 (g.2.getD i (0, 0)).1 t && inB d.1 (g.2.getD i (0, 0)).2 t) d.1.length from rfl, ← cnt0_any, Bool.eq_iff_iff, beq_iff_eq, beq_iff_eq]; omega
        rw [hz]
        cases edgP g d i <;> rfl
      · intro k
        simp only [s_l5Good_l1]
        rw [decide_eq_false (show ¬ (g.2.length : Int) < (g.2.length : Int) by omega), cond_false]

/-- the program's table of the bags that have a node -/
def HavIs (n m : Nat) (P : Nat → Nat → Bool) (hv : List Int) : Prop := hv.length = n ∧ ∀ x, x < n → hv.getD x 0 = ((mkm (P x) m : Nat) : Int)

theorem hav_set {n m z i : Nat} {P P' : Nat → Nat → Bool} {hv : List Int} (h : HavIs n m P hv) (hz : z < n) (hi : i < m) (hm : m ≤ 62) (h1 : ∀ j, j < m → P' z j = (P z j || j == i)) (h2 : ∀ x, x ≠ z → ∀ j, j < m → P' x j = P x j) :
    HavIs n m P' (hv.set z (ior .i64 (hv.getD z 0) ((2 ^ i : Nat) : Int))) := by
  refine ⟨by rw [List.length_set]; exact h.1, fun x hx => ?_⟩
  by_cases e : x = z
  · subst e
    rw [List.getD_eq_getElem?_getD, List.getElem?_set_self (by rw [h.1]; exact hx), Option.getD_some, h.2 x hx, ior_nat (mkm_lt63 hm) (pow_lt (by omega))]
    congr 1
    refine mkm_of fun j => ?_
    rw [Nat.testBit_or, mkm_bit, Nat.testBit_two_pow]
    by_cases hj : j < m
    · rw [decide_eq_true hj, Bool.true_and, Bool.true_and, h1 j hj]
      congr 1
      rw [Bool.eq_iff_iff, decide_eq_true_eq, beq_iff_eq]; omega
    · rw [decide_eq_false hj, decide_eq_false (show ¬ i = j by omega)]; rfl
  · rw [List.getD_eq_getElem?_getD, List.getElem?_set_ne (by omega), ← List.getD_eq_getElem?_getD, h.2 x hx]
    congr 1
    exact mkm_congr fun j hj => (h2 x e j hj).symm

theorem iDC_eq {F : Nat} {g : Gr} {d : DC} (hg : good g = true) (hd : Dg F d) (hG : g.2.length < F) (hs : Sm g.2.length) : i_isDecomposition F g d = some (dcB g d) := by
  have hf := hd.bg.fuel
  have hl := hd.bg.len
  have htl := hd.tl
  have h8 := good_size hg
  have hdc : dcB g d = (trB d && allN (fun i => setB g.1 (d.1.getD i [])) d.1.length && allN (nodP d) g.1.toNat && allN (edgP g d) g.2.length) := rfl
  unfold i_isDecomposition i_isDecomposition_j1
  by_cases hn0 : d.1.length = 0
  · have : trB d = false := by
      rw [Bool.eq_false_iff]; intro h
      have := trB_n h; omega
    rw [hdc, this, hn0]; rfl
  · have e0 : ((d.1.length : Int) == 0) = false := by rw [beq_eq_false_iff_ne]; omega
    rw [e0, cond_false]
    have hig := isGraph_eq (F := F) (g := treeOf d) (show d.2.length < F by omega) (by omega) (show Sm d.2.length by unfold Sm; omega)
    rw [show i_IsGraph F ((d.1.length : Int), d.2) = some (good (treeOf d)) from hig, Option.bind_some]
    have htr : trB d = (good (treeOf d) && (d.2.length + 1 == d.1.length) && ((prt (treeOf d) d.1.length (fun _ => true)).length == 1)) := by
      unfold trB; rw [decide_eq_true (show 1 ≤ d.1.length by omega), Bool.true_and]
    cases hT : good (treeOf d) with
    | false =>
      rw [hT] at htr
      rw [hdc, htr]; rfl
    | true =>
      rw [hT, Bool.true_and] at htr
      have ht8 := good_size hT
      simp only [treeOf] at ht8
      have hw : w64 ((d.1.length : Int) - 1) = (d.1.length : Int) - 1 := w64_id (by omega) (by omega)
      have hne : ((d.2.length : Int) != (d.1.length : Int) - 1) = !(d.2.length + 1 == d.1.length) := by
        by_cases h : d.2.length + 1 = d.1.length
        · have h1 : (d.2.length : Int) = (d.1.length : Int) - 1 := by omega
          rw [h1, h]; simp
        · have h1 : (d.2.length : Int) ≠ (d.1.length : Int) - 1 := by omega
          have h2 : (d.2.length + 1 == d.1.length) = false := by simpa using h
          rw [h2]; simpa using h1
      rw [Bool.not_true, cond_false, hw, hne]
      cases hlen : (d.2.length + 1 == d.1.length) with
      | false =>
        rw [hlen] at htr
        rw [hdc, htr]; rfl
      | true =>
        rw [hlen, Bool.true_and] at htr
        rw [Bool.not_true, cond_false]
        have hnet := netOf_eq (F := F) (g := treeOf d) hT (show d.2.length < F by omega) (show Sm d.2.length by unfold Sm; omega)
        have hpl := pow_lt (j := d.1.length) (by omega)
        have hpow := Nat.two_pow_pos d.1.length
        rw [show i_netOf F ((d.1.length : Int), d.2) = some ⟨nearL (treeOf d)⟩ from hnet, Option.bind_some, one_shl (by omega), Option.bind_some]
        have hw1 : w64 (((2 ^ d.1.length : Nat) : Int) - 1) = ((mkm (fun _ => true) d.1.length : Nat) : Int) := by
          rw [w64_id (by omega) (by omega)]
          have : 2 ^ d.1.length - 1 = mkm (fun _ => true) d.1.length := by
            refine mkm_of fun j => ?_
            rw [Nat.testBit_two_pow_sub_one, Bool.and_true]
          omega
        have hparts : ∀ p : Nat → Bool, i_net_parts F ⟨nearL (treeOf d)⟩ ((mkm p d.1.length : Nat) : Int) = some ((prt (treeOf d) d.1.length p).map fun (m : Nat) => (m : Int)) := by
          intro p
          have := parts_eq (F := F) (g := treeOf d) (p := p) hT (by omega)
          simpa only [treeOf, Int.toNat_natCast] using this
        rw [hw1, hparts, Option.bind_some, List.length_map, one_len, ← htr]
        cases htB : trB d with
        | false => rw [hdc, htB]; rfl
        | true =>
          rw [hdc, htB, Bool.true_and, Bool.not_true, cond_false]
          obtain ⟨n, hn⟩ : ∃ n : Nat, g.1 = n := ⟨g.1.toNat, by omega⟩
          have hmk : mkN g.1 (0 : Int) = some (List.replicate n 0) := by rw [hn]; exact mkN_nat (by omega)
          rw [hmk, Option.bind_some]
          rw [loop_st (L := fun k i s => i_isDecomposition_l2 F g d k s i) (n := d.1.length) (fun i s => HavIs n d.1.length (fun x j => decide (j < i) && inB d.1 (x : Int) j) s) (p := fun i => setB g.1 (d.1.getD i [])) (r := some (allN (nodP d) g.1.toNat && allN (edgP g d) g.2.length)) (bad := some false) ?_ ?_ ?_ F (List.replicate n 0) (by omega) ?_]
          · cases allN (fun i => setB g.1 (d.1.getD i [])) d.1.length <;> rfl
          · intro k i s hi hI hp
            have hbi := hd.bg.at hi
            obtain ⟨s', hs', he⟩ := loop_ex (L := fun k2 t s => i_isDecomposition_l1 F g d (i : Int) (d.1.getD i []) (i_isDecomposition_l2 F g d k) k2 s t) (n := (d.1.getD i []).length) (fun t s => HavIs n d.1.length (fun x j => (decide (j < i) && inB d.1 (x : Int) j) || (j == i && decide ((x : Int) ∈ (d.1.getD i []).take t))) s) (fin := fun s => i_isDecomposition_l2 F g d k s ((i + 1 : Nat) : Int)) (by
              intro k2 t s ht hI2
              have hxr := setB_range hp _ (getD_mem (d := 0) ht)
              obtain ⟨z, hz⟩ : ∃ z : Nat, (d.1.getD i []).getD t 0 = z := ⟨((d.1.getD i []).getD t 0).toNat, by omega⟩
              rw [hz] at hxr
              have hzn : z < n := by omega
              refine ⟨_, hav_set (P' := fun x j => (decide (j < i) && inB d.1 (x : Int) j) || (j == i && decide ((x : Int) ∈ (d.1.getD i []).take (t + 1)))) (z := z) (i := i) hI2 hzn hi (by omega) ?_ ?_, ?_⟩
              · intro j hj
                have : decide ((z : Int) ∈ (d.1.getD i []).take (t + 1)) = true := by
                  have := pre_succ (x := z) ht hz z
                  unfold preP at this
                  rw [this]; simp
                rw [this]
                cases h1 : (j == i) <;> simp
              · intro x hxz j hj
                have := pre_succ (x := z) ht hz x
                unfold preP at this
                have h2 : (x == z) = false := by simpa using hxz
                rw [h2, Bool.or_false] at this
                rw [this]
              · simp only [i_isDecomposition_l1]
                rw [decide_eq_true (show (t : Int) < ((d.1.getD i []).length : Int) by omega), cond_true, idx_getD (d := 0) ht, Option.bind_some, hz, idx_getD (d := 0) (by rw [hI2.1]; exact hzn), Option.bind_some, one_shl (by omega), Option.bind_some, Option.bind_some, Int.toNat_natCast, w64_succ ht (by unfold Sm; omega)]) (by
              intro k2 s hI2
              simp only [i_isDecomposition_l1]
              rw [decide_eq_false (show ¬ ((d.1.getD i []).length : Int) < ((d.1.getD i []).length : Int) by omega), cond_false, w64_succ hi (by unfold Sm; omega)]) F s (by omega) (by
              refine ⟨hI.1, fun x hx => ?_⟩
              rw [hI.2 x hx]
              congr 1
              refine mkm_congr fun j hj => ?_
              show _ = ((decide (j < i) && inB d.1 (x : Int) j) || (j == i && decide ((x : Int) ∈ (d.1.getD i []).take 0)))
              simp)
            refine ⟨s', ⟨hs'.1, fun x hx => ?_⟩, ?_⟩
            · rw [hs'.2 x hx]
              congr 1
              refine mkm_congr fun j hj => ?_
              show ((decide (j < i) && inB d.1 (x : Int) j) || (j == i && decide ((x : Int) ∈ (d.1.getD i []).take (d.1.getD i []).length))) = (decide (j < i + 1) && inB d.1 (x : Int) j)
              rw [List.take_length]
              by_cases e : j = i
              · subst e
                simp [inB]
              · have e1 : (j == i) = false := by simpa using e
                rw [e1, Bool.false_and, Bool.or_false]
                congr 1
                rw [decide_eq_decide]; omega
            · simp only [i_isDecomposition_l2]
              rw [decide_eq_true (show (i : Int) < (d.1.length : Int) by omega), cond_true, idx_getD (d := []) hi, Option.bind_some, isSet_eq hg (by omega) (by unfold Sm; omega) hG hs (by omega), Option.bind_some]
              have hp' : setB g.1 (d.1.getD i []) = true := hp
              rw [hp', Bool.not_true, cond_false]
              exact he
          · intro k i s hi hI hp
            have hbi := hd.bg.at hi
            have hp' : setB g.1 (d.1.getD i []) = false := hp
            simp only [i_isDecomposition_l2]
            rw [decide_eq_true (show (i : Int) < (d.1.length : Int) by omega), cond_true, idx_getD (d := []) hi, Option.bind_some, isSet_eq hg (by omega) (by unfold Sm; omega) hG hs (by omega), Option.bind_some, hp']
            rfl
          · intro k s hI
            have hhv : ∀ x, x < n → s.getD x 0 = ((mkm (fun i => inB d.1 (x : Int) i) d.1.length : Nat) : Int) := by
              intro x hx
              rw [hI.2 x hx]
              congr 1
              refine mkm_congr fun j hj => ?_
              show (decide (j < d.1.length) && inB d.1 (x : Int) j) = _
              rw [decide_eq_true hj, Bool.true_and]
            simp only [i_isDecomposition_l2]
            rw [decide_eq_false (show ¬ (d.1.length : Int) < (d.1.length : Int) by omega), cond_false]
            unfold slices_ContainsFunc_of_i_isDecomposition_1 slices_IndexFunc_of_i_isDecomposition_1
            obtain ⟨r, h1, h2, _⟩ := loop_first (L := fun k i => slices_IndexFunc_of_i_isDecomposition_1_l1 F s ⟨(), (⟨((d.1.length : Int), d.2)⟩, ())⟩ k i) (n := n) (p := fun x => !nodP d x) (by
              intro k x hx
              simp only [slices_IndexFunc_of_i_isDecomposition_1_l1, i_isDecomposition_1]
              rw [hI.1, decide_eq_true (show (x : Int) < (n : Int) by omega), cond_true, idx_getD (d := 0) (by rw [hI.1]; exact hx), Option.bind_some, show i_netOf F ((d.1.length : Int), d.2) = some ⟨nearL (treeOf d)⟩ from hnet, Option.bind_some, hhv x hx, hparts, Option.bind_some, Option.bind_some, List.length_map, one_len, w64_succ hx (by unfold Sm; omega)]
              rfl) (by
              intro k
              simp only [slices_IndexFunc_of_i_isDecomposition_1_l1]
              rw [hI.1, decide_eq_false (show ¬ (n : Int) < (n : Int) by omega), cond_false]) F (by omega)
            rw [h1, Option.bind_some, Option.bind_some, h2, anyN_not, hn, Int.toNat_natCast]
            cases allN (nodP d) n with
            | false => rfl
            | true =>
              rw [Bool.not_true, cond_false, Bool.true_and]
              unfold slices_ContainsFunc_2_int_2_int_of_i_isDecomposition_2 slices_IndexFunc_2_int_2_int_of_i_isDecomposition_2
              have hok := (allN_iff.1 (by unfold good at hg; simp only [Bool.and_eq_true] at hg; exact hg.2) : ∀ i, i < g.2.length → okE g.1 g.2 i = true)
              obtain ⟨r2, h3, h4, _⟩ := loop_first (L := fun k i => slices_IndexFunc_2_int_2_int_of_i_isDecomposition_2_l1 F g.2 ⟨(), (⟨s⟩, ())⟩ k i) (n := g.2.length) (p := fun i => !edgP g d i) (by
                intro k i hi
                have hoki := hok i hi
                unfold okE at hoki
                simp only [Bool.and_eq_true, decide_eq_true_eq] at hoki
                obtain ⟨⟨⟨o1, o2⟩, o3⟩, _⟩ := hoki
                obtain ⟨u, v, hu, hv⟩ : ∃ u v : Nat, (g.2.getD i (0, 0)).1 = u ∧ (g.2.getD i (0, 0)).2 = v := ⟨(g.2.getD i (0, 0)).1.toNat, (g.2.getD i (0, 0)).2.toNat, by omega, by omega⟩
                have hun : u < n := by omega
                have hvn : v < n := by omega
                simp only [slices_IndexFunc_2_int_2_int_of_i_isDecomposition_2_l1, i_isDecomposition_2]
                rw [decide_eq_true (show (i : Int) < (g.2.length : Int) by omega), cond_true, idx_getD (d := (0, 0)) hi, Option.bind_some, hu, hv, idx_getD (d := 0) (by rw [hI.1]; exact hun), Option.bind_some, idx_getD (d := 0) (by rw [hI.1]; exact hvn), Option.bind_some, Option.bind_some, hhv u hun, hhv v hvn, iand_nat (mkm_lt63 (by omega)) (mkm_lt63 (by omega)), w64_succ hi hs]
                have : (((mkm (fun i => inB d.1 (u : Int) i) d.1.length &&& mkm (fun i => inB d.1 (v : Int) i) d.1.length : Nat) : Int) == 0) = !edgP g d i := by
                  have hiff : (mkm (fun i => inB d.1 (u : Int) i) d.1.length &&& mkm (fun i => inB d.1 (v : Int) i) d.1.length) = 0 ↔ edgP g d i = false := by
                    unfold edgP
                    rw [hu, hv, anyN_eq, Bool.not_eq_false', allN_iff]
                    constructor
                    · intro h0 t ht
                      have h5 : (mkm (fun i => inB d.1 (u : Int) i) d.1.length &&& mkm (fun i => inB d.1 (v : Int) i) d.1.length).testBit t = false := by rw [h0, Nat.zero_testBit]
                      rw [Nat.testBit_and, mkm_bit, mkm_bit, decide_eq_true ht, Bool.true_and, Bool.true_and] at h5
                      rw [h5]; rfl
                    · intro h
                      apply Nat.eq_of_testBit_eq
                      intro t
                      rw [Nat.testBit_and, mkm_bit, mkm_bit, Nat.zero_testBit]
                      by_cases ht : t < d.1.length
                      · have := h t ht
                        rw [decide_eq_true ht, Bool.true_and, Bool.true_and]
                        cases h6 : (inB d.1 (u : Int) t && inB d.1 (v : Int) t) with
                        | false => rfl
                        | true => rw [h6] at this; cases this
                      · rw [decide_eq_false ht]; rfl
                  cases he : edgP g d i with
                  | false => rw [hiff.2 he]; rfl
                  | true =>
                    have : (mkm (fun i => inB d.1 (u : Int) i) d.1.length &&& mkm (fun i => inB d.1 (v : Int) i) d.1.length) ≠ 0 := fun e => by rw [hiff.1 e] at he; cases he
                    rw [Bool.not_true, beq_eq_false_iff_ne]; omega
                rw [this]) (by
                intro k
                simp only [slices_IndexFunc_2_int_2_int_of_i_isDecomposition_2_l1]
                rw [decide_eq_false (show ¬ (g.2.length : Int) < (g.2.length : Int) by omega), cond_false]) F hG
              rw [h3, Option.bind_some, Option.bind_some, h4, anyN_not, Bool.not_not]
          · refine ⟨by simp, fun x hx => ?_⟩
            have : mkm (fun j => decide (j < 0) && inB d.1 (x : Int) j) d.1.length = 0 := by
              rw [mkm_zero, fst_none]; intro j _; simp
            rw [this, List.getD_eq_getElem?_getD, List.getElem?_replicate, if_pos hx]; rfl

end Go.Zq
/- Plain mathematics: copies and sizes of decompositions; their width. -/
namespace Go.Zq

theorem szA2S_eq {F : Nat} {xs : List (Int × Int)} {l : Int} (h0 : 0 ≤ l) (hl : l ≤ 1048576) (hm : xs.length ≤ 9223372036854775807) : w_szIntA2S F xs l = some (if l - xs.length < 0 then -1 else l - xs.length) := by
  unfold w_szIntA2S
  rw [w64_id (by omega) (by omega)]
  by_cases h : l - (xs.length : Int) < 0
  · simp [h]
  · simp [h]

theorem szDC_eq {F : Nat} {d : DC} {l : Int} (hF : 1048577 ≤ F) (h0 : 0 ≤ l) (hl : l ≤ 1048576) (hm : d.1.length ≤ 9223372036854775807) (hm2 : ∀ x ∈ d.1, x.length ≤ 9223372036854775807) (hm3 : d.2.length ≤ 9223372036854775807) :
    ∃ r, w_szDecomposition F d l = some r ∧ (0 ≤ r → Dg F d) := by
  unfold w_szDecomposition
  obtain ⟨r, h1, h2⟩ := szIntSS_eq (F := F) (xs := d.1) hF h0 hl hm hm2
  rw [h1, Option.bind_some]
  by_cases h : r < 0
  · exact ⟨-1, by rw [decide_eq_true h, cond_true], by omega⟩
  · have h3 := h2 (by omega)
    rw [decide_eq_false h, cond_false, szA2S_eq (by omega) (by omega) hm3, Option.bind_some]
    by_cases h4 : r - (d.2.length : Int) < 0
    · exact ⟨-1, by rw [if_pos h4]; rfl, by omega⟩
    · refine ⟨r - d.2.length, by rw [if_neg h4, decide_eq_false h4, cond_false], fun _ => ⟨Bg.of (by omega) hF, by omega⟩⟩

theorem Dg.toC {F : Nat} {d : DC} (h : Dg F d) : w_toDecomposition F d = some d := by
  have h1 := h.bg.fuel
  have h2 := h.tl
  unfold w_toDecomposition
  rw [h.bg.to, Option.bind_some, toIntA2S_eq (by omega) (by omega) (by omega), Option.bind_some]
theorem Dg.eqC {F : Nat} {d : DC} (h : Dg F d) : w_eqDecomposition F d d = some true := by
  have h1 := h.bg.fuel
  have h2 := h.tl
  unfold w_eqDecomposition
  rw [h.bg.eq, Option.bind_some, Bool.not_true, cond_false, eqIntA2S_eq (by omega) (by unfold Sm; omega) (by omega), Option.bind_some]
  rfl

end Go.Zq
/- Plain mathematics: whether it is a decomposition. -/
namespace Go.Zq

theorem sIsDC_eq {F : Nat} {g : Gr} {d : DC} (hd : Dg F d) (hG : g.2.length < F) (hs : Sm g.2.length) : s_IsDecomposition F g d = some (good g && dcB g d, good g) := by
  unfold s_IsDecomposition
  rw [l2Good_eq hG hs, Option.bind_some]
  cases hg : good g with
  | false => rfl
  | true => rw [Bool.not_true, cond_false, sDC_eq hg hd hG hs, Option.bind_some, Bool.true_and]
theorem iIsDC_eq {F : Nat} {g : Gr} {d : DC} (hd : Dg F d) (hG : g.2.length < F) (hs : Sm g.2.length) : i_IsDecomposition F g d = some (good g && dcB g d, good g) := by
  have hf := hd.bg.fuel
  unfold i_IsDecomposition
  rw [isGraph_eq hG (by omega) hs, Option.bind_some]
  cases hg : good g with
  | false => rfl
  | true => rw [Bool.not_true, cond_false, iDC_eq hg hd hG hs, Option.bind_some, Bool.true_and]

end Go.Zq
/- The law IsDecomposition, as a plain statement. -/
namespace Go.Zq

theorem lawIsDecomposition {F : Nat} {g : Gr} {d : DC} (hF : 2097152 ≤ F) (hg : g.2.length ≤ 9223372036854775807) (hb1 : d.1.length ≤ 9223372036854775807) (hb2 : ∀ x ∈ d.1, x.length ≤ 9223372036854775807) (hb3 : d.2.length ≤ 9223372036854775807) : w_FnExactIsDecomposition F g d = some true := by
  unfold w_FnExactIsDecomposition
  rw [szGraph_eq (by omega) (by omega) hg, Option.bind_some]
  by_cases h2 : (1048576 : Int) - g.2.length < 0
  · simp [h2]
  simp only [h2, if_false, decide_false, cond_false]
  obtain ⟨r, hr, hr2⟩ := szDC_eq (F := F) (d := d) (l := 1048576 - g.2.length) (by omega) (by omega) (by omega) hb1 hb2 hb3
  rw [hr, Option.bind_some]
  by_cases h3 : r < 0
  · simp [h3]
  have hB : Dg F d := hr2 (by omega)
  simp only [h3, decide_false, cond_false]
  rw [toGraph_eq (by omega) (by omega) (by omega), hB.toC]
  simp only [Option.bind_some]
  rw [sIsDC_eq hB (by omega) (by unfold Sm; omega), iIsDC_eq hB (by omega) (by unfold Sm; omega)]
  simp only [Option.bind_some, bne_self_eq_false, cond_false, w_FnExactIsDecomposition_j1]
  rw [toGraph_eq (by omega) (by omega) (by omega), hB.toC]
  simp only [Option.bind_some]
  rw [eqGraph_eq (by omega) (by unfold Sm; omega) (by omega), hB.eqC]
  rfl

end Go.Zq
