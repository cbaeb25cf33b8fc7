/- Plain mathematics: what the functions answer (part 3). Conditions: stated in each theorem. -/
import Derived.Test.YtdhbhaaiohkpdaaM2
import Derived.Test.YtdhbhaaiohkpdaaM1
set_option linter.unusedVariables false
set_option linter.unusedSimpArgs false
/- Plain mathematics: cliques; perfect eliminations. -/
namespace Go.Zq

end Go.Zq
/- Plain mathematics: decompositions. -/
namespace Go.Zq

end Go.Zq
/- Plain mathematics: the filling of an elimination, and its width. -/
namespace Go.Zq

end Go.Zq
/- Plain mathematics: the bags of a layout. -/
namespace Go.Zq

theorem appL_some {α : Type} {xs ys : List α} (h : xs.length + ys.length ≤ 1099511627776) : appL xs ys = some (xs ++ ys) := by
  unfold appL
  rw [if_pos (by simpa using h)]

end Go.Zq
/- Plain mathematics: the layout of bags. -/
namespace Go.Zq

/-- numbers that are not in a list yet are put behind it -/
def dd (a : List Int) : List Int → List Int
  | [] => a
  | x :: xs => dd (if x ∈ a then a else a ++ [x]) xs
def dds (a : List Int) : List (List Int) → List Int
  | [] => a
  | b :: bs => dds (dd a b) bs

theorem dd_append : ∀ (xs ys a : List Int), dd a (xs ++ ys) = dd (dd a xs) ys
  | [], ys, a => rfl
  | x :: xs, ys, a => by simp only [List.cons_append, dd]; exact dd_append xs ys _
theorem dds_append : ∀ (xs ys : List (List Int)) (a : List Int), dds a (xs ++ ys) = dds (dds a xs) ys
  | [], ys, a => rfl
  | x :: xs, ys, a => by simp only [List.cons_append, dds]; exact dds_append xs ys _
theorem dd_take {a b : List Int} {i : Nat} (h : i < b.length) : dd a (b.take (i + 1)) = (if b.getD i 0 ∈ dd a (b.take i) then dd a (b.take i) else dd a (b.take i) ++ [b.getD i 0]) := by
  have e : b.take (i + 1) = b.take i ++ [b.getD i 0] := by
    rw [List.take_add_one]
    simp [h, List.getD_eq_getElem?_getD]
  rw [e, dd_append]
  simp only [dd]
theorem dds_take {a : List Int} {b : List (List Int)} {i : Nat} (h : i < b.length) : dds a (b.take (i + 1)) = dd (dds a (b.take i)) (b.getD i []) := by
  have e : b.take (i + 1) = b.take i ++ [b.getD i []] := by
    rw [List.take_add_one]
    simp [h, List.getD_eq_getElem?_getD]
  rw [e, dds_append]
  simp only [dds]

theorem dd_len : ∀ (xs a : List Int), (dd a xs).length ≤ a.length + xs.length
  | [], a => by simp [dd]
  | x :: xs, a => by
    simp only [dd]
    have := dd_len xs (if x ∈ a then a else a ++ [x])
    split at this
    · rename_i h; rw [if_pos h]; simp; omega
    · rename_i h; rw [if_neg h]; simp at this ⊢; omega

theorem dds_len {n : Nat} : ∀ (bs : List (List Int)) (a : List Int), (∀ b ∈ bs, b.length ≤ n) → (dds a bs).length ≤ a.length + bs.length * n
  | [], a, _ => by simp [dds]
  | b :: bs, a, h => by
    simp only [dds, List.length_cons, Nat.add_mul]
    have h1 := dds_len bs (dd a b) fun c hc => h c (by simp [hc])
    have h2 := dd_len b a
    have h3 := h b (by simp)
    omega

/-- the bags' bounds -/
structure Bs (b : List (List Int)) : Prop where
  len : b.length ≤ 16
  each : ∀ x ∈ b, x.length ≤ 8

theorem Bs.dds {b : List (List Int)} (h : Bs b) {i : Nat} : (Zq.dds [] (b.take i)).length ≤ 128 := by
  have h1 := dds_len (n := 8) (b.take i) [] fun c hc => h.each c (List.mem_of_mem_take hc)
  have h2 : (b.take i).length ≤ 16 := by rw [List.length_take]; have := h.len; omega
  have h3 : (b.take i).length * 8 ≤ 16 * 8 := Nat.mul_le_mul_right _ h2
  simp only [List.length_nil] at h1
  omega

theorem Bs.dd {b : List (List Int)} (h : Bs b) {i j : Nat} (hi : i < b.length) : (Zq.dd (Zq.dds [] (b.take i)) ((b.getD i []).take j)).length ≤ 136 := by
  have h1 := dd_len ((b.getD i []).take j) (Zq.dds [] (b.take i))
  have h2 := h.dds (i := i)
  have h3 := h.each _ (getD_mem (d := []) hi)
  have h4 : ((b.getD i []).take j).length ≤ 8 := by rw [List.length_take]; omega
  omega

theorem Bs.get {b : List (List Int)} (h : Bs b) {i : Nat} (hi : i < b.length) : (b.getD i []).length ≤ 8 := h.each _ (getD_mem (d := []) hi)

theorem sLay_eq {F : Nat} {b : List (List Int)} (hb : Bs b) (hF : 200 ≤ F) : s_LayoutOfBags_l2 F b F [] 0 = some (dds [] b, true) := by
  have hl := hb.len
  refine loop_inv (L := fun k i s => s_LayoutOfBags_l2 F b k s i) (n := b.length) (fun i s => s = dds [] (b.take i)) ?_ ?_ F _ (by omega) rfl
  · rintro k i s hi rfl
    refine ⟨_, rfl, ?_⟩
    have h8 := hb.get hi
    simp only [s_LayoutOfBags_l2]
    rw [decide_eq_true (show (i : Int) < (b.length : Int) by omega), cond_true]
    refine loop_inv (L := fun k2 j s => s_LayoutOfBags_l1 F b (i : Int) (s_LayoutOfBags_l2 F b k) k2 s j) (n := (b.getD i []).length) (fun j s => s = dd (dds [] (b.take i)) ((b.getD i []).take j)) ?_ ?_ F _ (by omega) rfl
    · rintro k2 j s hj rfl
      refine ⟨_, rfl, ?_⟩
      have hdl := hb.dd (j := j) hi
      simp only [s_LayoutOfBags_l1, s_LayoutOfBags_j1]
      rw [idx_getD (d := []) hi, Option.bind_some, decide_eq_true (show (j : Int) < ((b.getD i []).length : Int) by omega), cond_true, Option.bind_some, idx_getD (d := 0) hj, Option.bind_some, l1Has_eq (by omega) (by unfold Sm; omega), Option.bind_some, Option.bind_some, idx_getD (d := 0) hj, Option.bind_some, appL_some (by rw [List.length_singleton]; omega), Option.bind_some, w64_succ hj (by unfold Sm; omega), dd_take hj]
      by_cases h : (b.getD i []).getD j 0 ∈ dd (dds [] (b.take i)) ((b.getD i []).take j)
      · rw [decide_eq_true h, if_pos h]; rfl
      · rw [decide_eq_false h, if_neg h]; rfl
    · rintro k2 s rfl
      simp only [s_LayoutOfBags_l1]
      rw [idx_getD (d := []) hi, Option.bind_some, decide_eq_false (show ¬ ((b.getD i []).length : Int) < ((b.getD i []).length : Int) by omega), cond_false, w64_succ hi (by unfold Sm; omega), dds_take hi, List.take_length]
  · rintro k s rfl
    simp only [s_LayoutOfBags_l2]
    rw [decide_eq_false (show ¬ (b.length : Int) < (b.length : Int) by omega), cond_false, List.take_length]

theorem iLay_eq {F : Nat} {b : List (List Int)} (hb : Bs b) (hF : 200 ≤ F) : ∃ o : NL Int, i_LayoutOfBags_o_l2 F b F .nil 0 = some (o, true) ∧ o.list = dds [] b := by
  have hl := hb.len
  obtain ⟨s, h1, h2⟩ := loop_ex (L := fun k i (s : NL Int) => i_LayoutOfBags_o_l2 F b k s i) (n := b.length) (fin := fun s => some (s, true)) (fun i s => s.list = dds [] (b.take i)) (by
    rintro k i s hi hI
    have h8 := hb.get hi
    obtain ⟨s2, h3, h4⟩ := loop_ex (L := fun k2 j (s : NL Int) => i_LayoutOfBags_o_l1 F b (i : Int) (b.getD i []) (i_LayoutOfBags_o_l2 F b k) k2 s j) (n := (b.getD i []).length) (fin := fun s => i_LayoutOfBags_o_l2 F b k s ((i + 1 : Nat) : Int))
      (fun j s => s.list = dd (dds [] (b.take i)) ((b.getD i []).take j)) (by
        rintro k2 j t hj hJ
        have hdl := hb.dd (j := j) hi
        rw [← hJ] at hdl
        have hnext := dd_take (a := dds [] (b.take i)) hj
        rw [← hJ] at hnext
        simp only [i_LayoutOfBags_o_l1, i_LayoutOfBags_o_j1]
        rw [decide_eq_true (show (j : Int) < ((b.getD i []).length : Int) by omega), cond_true, idx_getD (d := 0) hj, Option.bind_some, contains_eq (by omega) (by unfold Sm; omega), Option.bind_some, appL_some (by rw [List.length_singleton]; omega), Option.bind_some, w64_succ hj (by unfold Sm; omega)]
        by_cases h : (b.getD i []).getD j 0 ∈ t.list
        · rw [if_pos h] at hnext
          exact ⟨t, by rw [hnext], by rw [decide_eq_true h]; rfl⟩
        · rw [if_neg h] at hnext
          exact ⟨.of (t.list ++ [(b.getD i []).getD j 0]), by rw [hnext]; rfl, by rw [decide_eq_false h]; rfl⟩)
      (by
        rintro k2 t hJ
        simp only [i_LayoutOfBags_o_l1]
        rw [decide_eq_false (show ¬ ((b.getD i []).length : Int) < ((b.getD i []).length : Int) by omega), cond_false, w64_succ hi (by unfold Sm; omega)]) F s (by omega) (by rw [hI]; rfl)
    refine ⟨s2, by rw [h3, dds_take hi, List.take_length], ?_⟩
    simp only [i_LayoutOfBags_o_l2]
    rw [decide_eq_true (show (i : Int) < (b.length : Int) by omega), cond_true, idx_getD (d := []) hi, Option.bind_some]
    exact h4)
    (by
      rintro k s hI
      simp only [i_LayoutOfBags_o_l2]
      rw [decide_eq_false (show ¬ (b.length : Int) < (b.length : Int) by omega), cond_false]) F .nil (by omega) rfl
  exact ⟨s, h2, by rw [h1, List.take_length]⟩

theorem pd_bs {g : Gr} {b : List (List Int)} (hg : good g = true) (h : pdB g b = true) : Bs b := by
  have h8 := good_size hg
  unfold pdB at h
  simp only [Bool.and_eq_true, decide_eq_true_eq] at h
  refine ⟨h.1.1.1, fun x hx => ?_⟩
  obtain ⟨i, hi, e⟩ := List.mem_iff_getElem.1 hx
  have h1 := allN_iff.1 h.1.1.2 i hi
  rw [List.getD_eq_getElem?_getD, List.getElem?_eq_getElem hi, Option.getD_some, e] at h1
  have h2 := setB_listN h1
  rw [h2]
  have := listN_le (p := bq x) (n := g.1.toNat)
  omega

theorem exLayoutOfBags {F : Nat} {g : Gr} {b : List (List Int)} (hb : Bg F b) (hG : g.2.length < F) (hs : Sm g.2.length) :
    ∃ R c o, s_LayoutOfBags F g b = some (R, c) ∧ i_LayoutOfBags_o F g b = some (o, c) ∧ o.list = R ∧ R.length ≤ 1000 := by
  have hfu := hb.fuel
  unfold s_LayoutOfBags i_LayoutOfBags_o
  rw [l2Good_eq hG hs, isGraph_eq hG (by omega) hs, Option.bind_some, Option.bind_some]
  cases hg : good g with
  | false => exact ⟨[], false, .nil, rfl, rfl, rfl, by simp⟩
  | true =>
    rw [Bool.not_true, cond_false, cond_false, sPD_eq hg hb hG hs, iPD_eq hg hb hG hs, Option.bind_some, Option.bind_some]
    cases hp : pdB g b with
    | false => exact ⟨[], false, .nil, rfl, rfl, rfl, by simp⟩
    | true =>
      have hbs := pd_bs hg hp
      obtain ⟨o, h1, h2⟩ := iLay_eq (F := F) hbs (by omega)
      refine ⟨dds [] b, true, o, ?_, ?_, h2, ?_⟩
      · unfold s_LayoutOfBags_j2
        rw [Bool.not_true, cond_false]
        exact sLay_eq hbs (by omega)
      · unfold i_LayoutOfBags_o_j2
        rw [Bool.not_true, cond_false]
        exact h1
      · have := hbs.dds (i := b.length)
        rw [List.take_length] at this
        omega

end Go.Zq
/- The law LayoutOfBags, as a plain statement. -/
namespace Go.Zq

theorem sumL0_lens {b : List (List Int)} : ∀ n, n ≤ b.length → sumL0 ((b.take n).map List.length) = sumL b n
  | 0, _ => by simp [sumL0, sumL]
  | n + 1, h => by
    have e : b.take (n + 1) = b.take n ++ [b.getD n []] := by
      rw [List.take_add_one]
      simp [show n < b.length by omega, List.getD_eq_getElem?_getD]
    have e2 : ∀ (xs ys : List Nat), sumL0 (xs ++ ys) = sumL0 xs + sumL0 ys := by
      intro xs ys
      induction xs with
      | nil => simp [sumL0]
      | cons x xs ih => simp only [List.cons_append, sumL0, ih]; omega
    rw [e, List.map_append, e2, sumL0_lens n (by omega)]
    simp [sumL0, sumL]

theorem lawLayoutOfBags {F : Nat} {g : Gr} {b : List (List Int)} (hF : 2097152 ≤ F) (hg : g.2.length ≤ 9223372036854775807) (hb1 : b.length ≤ 9223372036854775807) (hb2 : ∀ x ∈ b, x.length ≤ 9223372036854775807) : w_FnExactLayoutOfBags F g b = some true := by
  unfold w_FnExactLayoutOfBags
  rw [szGraph_eq (by omega) (by omega) hg, Option.bind_some]
  by_cases h2 : (1048576 : Int) - g.2.length < 0
  · simp [h2]
  simp only [h2, if_false, decide_false, cond_false]
  obtain ⟨r, hr, hr2⟩ := szIntSS_eq (F := F) (xs := b) (l := 1048576 - g.2.length) (by omega) (by omega) (by omega) hb1 hb2
  rw [hr, Option.bind_some]
  by_cases h3 : r < 0
  · simp [h3]
  have h4 := hr2 (by omega)
  have hB : Bg F b := Bg.of (by omega) (by omega)
  simp only [h3, decide_false, cond_false]
  obtain ⟨R, c, o, hs, hi, ho, hl⟩ := exLayoutOfBags (F := F) (g := g) hB (by omega) (by unfold Sm; omega)
  have e1 : w_toGraph F g = some g := toGraph_eq (by omega) (by omega) (by omega)
  have e2 : w_toGraph_o F g = some (g.1, .of g.2) := toGraph_o_eq (by omega) (by omega) (by omega)
  have e3 : w_toIntSS F b = some b := hB.to
  have e4 : w_toIntSS_o F b = some (.of (b.map .of)) := toIntSS_o_eq (by have := hB.len; omega) (by have := hB.len; omega) fun x hx => by have := hB.each x hx; omega
  have e0 : List.map NL.list (NL.of (b.map NL.of) : NL (NL Int)).list = b := by
    show List.map NL.list (b.map NL.of) = b
    rw [List.map_map]
    have : (NL.list ∘ NL.of : List Int → List Int) = id := rfl
    rw [this, List.map_id]
  have e5 : w_eqIntS F o.list R = some true := by rw [ho]; exact eqIntS_eq (by omega) (by unfold Sm; omega)
  have e6 : w_eqGraph F (g.1, (NL.of g.2).list) g = some true := eqGraph_eq (g := g) (by omega) (by unfold Sm; omega) (by omega)
  have e7 : w_eqIntSS F b b = some true := hB.eq
  obtain ⟨yg, e8, _, _⟩ := markGraph_eq (F := F) (a := g.1) (xs := g.2) (k := 1) (by omega) (by omega) (by omega) (by omega) (by omega)
  obtain ⟨ns, hns⟩ : ∃ ns, (NL.of (b.map NL.of) : NL (NL Int)).list.map (fun o => o.list.length) = ns := ⟨_, rfl⟩
  have hns2 : ns = b.map List.length := by
    rw [← hns]
    show List.map _ (b.map NL.of) = _
    rw [List.map_map]; rfl
  have hnl : ns.length = b.length := by rw [hns2, List.length_map]
  have hsum : sumL0 ns = sumL b b.length := by
    have := sumL0_lens (b := b) b.length (Nat.le_refl _)
    rw [List.take_length] at this
    rw [hns2]; exact this
  obtain ⟨o1, m1, _, _⟩ := markIntSS_eq (F := F) (o := .of (b.map NL.of)) (k := 1 + 2 * (g.2.length : Int)) hns (by omega) (by omega) (by unfold Sm; omega) (by omega) (by omega) (by omega)
  have e9 : decide ((1 + 2 * (g.2.length : Int) + ((sumL0 ns : Nat) : Int)) < 0) = false := decide_eq_false (by omega)
  obtain ⟨o2, m2, m3, m4⟩ := markIntS_eq (F := F) (o := o) (k := 1) (by rw [ho]; omega) (by rw [ho]; omega) (by omega) (by omega)
  have e10 : w_heldIntS F o2.list 1 = some (1 + (o.list.length : Int)) := by rw [m4]; exact heldIntS_eq (by rw [ho]; omega) (by rw [ho]; omega) (by omega) (by omega)
  have e11 : decide ((1 + (o.list.length : Int)) < 0) = false := decide_eq_false (by omega)
  have hi1 : i_LayoutOfBags_o F (g.1, (NL.of g.2).list) b = some (o, c) := hi
  simp only [w_FnExactLayoutOfBags_j1, w_FnExactLayoutOfBags_j2, w_FnExactLayoutOfBags_j3, e0, e1, e2, e3, e4, e5, e6, e7, e8, m1, e9, e10, e11, hs, hi, hi1, m2, m3, Option.bind_some, Bool.not_true, cond_false, bne_self_eq_false]

end Go.Zq
