/- Plain mathematics: what the functions answer (part 2). Conditions: stated in each theorem. -/
import Derived.Test.YthblbfcloccopaaM1
set_option linter.unusedVariables false
set_option linter.unusedSimpArgs false
/- Plain mathematics: fronts. -/
namespace Go.Zq

end Go.Zq
/- Plain mathematics: own copies of arguments; lists that are marked. -/
namespace Go.Zq

end Go.Zq
/- Plain mathematics: fronts, as lists of one's own. -/
namespace Go.Zq

theorem listN_le {p : Nat → Bool} {n : Nat} : (listN p n).length ≤ n := by rw [listN_len]; exact cnt_le

end Go.Zq
/- Plain mathematics: the cutwidth of a layout. -/
namespace Go.Zq

end Go.Zq
/- Plain mathematics: the sizes of the fronts of a layout. -/
namespace Go.Zq

end Go.Zq
/- Plain mathematics: the program of a layout. -/
namespace Go.Zq

theorem filter_listN {A B : Nat → Bool} : ∀ n, (listN A n).filter (fun y => B y.toNat) = listN (fun j => A j && B j) n
  | 0 => rfl
  | n + 1 => by
    rw [listN_succ, listN_succ, List.filter_append, filter_listN n]
    congr 1
    cases h : A n
    · rfl
    · simp only [Bool.true_and, if_true, List.filter_cons, List.filter_nil, Int.toNat_natCast]

theorem takeS {l : List Int} {k a : Nat} (hk : k < l.length) (ha : l.getD k 0 = (a : Int)) : l.take (k + 1) = l.take k ++ [(a : Int)] := by
  rw [List.take_add_one]
  rw [List.getD_eq_getElem?_getD, List.getElem?_eq_getElem hk] at ha
  simp only [Option.getD_some] at ha
  rw [List.getElem?_eq_getElem hk, ha]; rfl

end Go.Zq
/- Plain mathematics: neighbors as lists. -/
namespace Go.Zq

theorem listN_s {p : Nat → Bool} {n : Nat} : listN p (n + 1) = if p n then listN p n ++ [(n : Int)] else listN p n := by
  rw [listN_succ]; cases p n <;> simp
theorem nbrs_eq {F x : Nat} {g : Gr} (hg : good g = true) (hF : 20 ≤ F) (hG : g.2.length < F) (hs : Sm g.2.length) : s_l2Neighbors F g (x : Int) = some (listN (adj g x) g.1.toNat) := by
  have h8 := good_size hg
  unfold s_l2Neighbors
  refine loop_inv (L := fun k t s => s_l2Neighbors_l1 F (x : Int) g k s t) (n := g.1.toNat) (fun t s => s = listN (adj g x) t) ?_ ?_ F [] (by omega) rfl
  · rintro k t s ht rfl
    refine ⟨_, rfl, ?_⟩
    have hle := listN_le (p := adj g x) (n := t)
    simp only [s_l2Neighbors_l1, s_l2Neighbors_j1]
    rw [decide_eq_true (show (t : Int) < g.1 by omega), cond_true, near_eq hG hs, Option.bind_some, w64_succ ht (by unfold Sm; omega), listN_s]
    cases adj g x t with
    | true => rw [cond_true, appL_one (by omega), Option.bind_some]; rfl
    | false => rfl
  · rintro k s rfl
    simp only [s_l2Neighbors_l1]
    rw [decide_eq_false (show ¬ (g.1.toNat : Int) < g.1 by omega), cond_false]

end Go.Zq
/- Plain mathematics: sets that stop a fire. -/
namespace Go.Zq

theorem cnt_split {p q : Nat → Bool} : ∀ n, cntN p n = cntN (fun j => q j && p j) n + cntN (fun j => p j && !q j) n := by
  intro n
  rw [cnt_sum, cnt_sum, cnt_sum, ← sum_add]
  refine sum_congr fun i _ => ?_
  cases p i <;> cases q i <;> rfl

theorem sInside_eq {F x : Nat} {g : Gr} {l : List Int} (hg : good g = true) (h : setB g.1 l = true) (hx : x < g.1.toNat) (hF : 20 ≤ F) (hG : g.2.length < F) (hs : Sm g.2.length) : s_l8Inside F g l (x : Int) = some ((cntN (fun j => bq l j && adj g x j) g.1.toNat : Nat) : Int) := by
  have h8 := good_size hg
  obtain ⟨p, hp⟩ : ∃ p, bq l = p := ⟨_, rfl⟩
  have hl := setB_listN h
  rw [hp] at hl ⊢
  have hle := listN_le (p := p) (n := g.1.toNat)
  unfold s_l8Inside
  rw [hl]
  refine loop_inv (L := fun k t s => s_l8Inside_l1 F (listN p g.1.toNat) (x : Int) g k s t) (n := (listN p g.1.toNat).length) (fun t s => s = ((((listN p g.1.toNat).take t).filter (fun y => adj g x y.toNat)).length : Int)) ?_ ?_ F 0 (by omega) (by simp)
  · rintro k t s ht rfl
    obtain ⟨a, ha, han, hap⟩ := listN_get ht
    refine ⟨_, rfl, ?_⟩
    have hl1 := List.length_filter_le (fun y : Int => adj g x y.toNat) ((listN p g.1.toNat).take t)
    have hl3 : ((listN p g.1.toNat).take t).length ≤ 8 := by simp; omega
    simp only [s_l8Inside_l1, s_l8Inside_j1]
    rw [decide_eq_true (show (t : Int) < ((listN p g.1.toNat).length : Int) by omega), cond_true, idx_getD (d := 0) ht, Option.bind_some, ha, near_eq hG hs, Option.bind_some, w64_succ ht (by unfold Sm; omega), takeS ht ha, List.filter_append, adj_comm]
    cases hB : adj g x a with
    | true =>
      rw [cond_true, w64_id (by omega) (by omega)]
      congr 1
      simp [List.filter_cons, hB]
    | false =>
      rw [cond_false]
      congr 1
      simp [List.filter_cons, hB]
  · rintro k s rfl
    simp only [s_l8Inside_l1]
    rw [decide_eq_false (show ¬ ((listN p g.1.toNat).length : Int) < ((listN p g.1.toNat).length : Int) by omega), cond_false, List.take_length, filter_listN (B := adj g x), listN_len]

/-- how many neighbors of a node are outside -/
def outC (g : Gr) (l : List Int) (x : Nat) : Nat := cntN (fun j => adj g x j && !bq l j) g.1.toNat

theorem sStop_eq {F : Nat} {g : Gr} {l : List Int} {r : Int} (hF : l.length < F) (hG : g.2.length < F) (h9 : 20 ≤ F) (hl : Sm l.length) (hs : Sm g.2.length) :
    s_IsStopping F g l r = some (bif good g && (setB g.1 l && (decide (1 ≤ r) && decide (r ≤ 8))) then (allN (fun i => !decide ((outC g l (l.getD i 0).toNat : Int) ≥ r)) l.length && decide (0 < l.length), true) else (false, false)) := by
  unfold s_IsStopping s_l8Number
  rw [l2Good_eq hG hs, Option.bind_some]
  cases h : good g with
  | false => rfl
  | true =>
    have h8 := good_size h
    simp only [Bool.not_true, cond_false, Bool.true_and]
    rw [l2Set_eq h hF hl, Option.bind_some, l1In_eq, Option.bind_some, Option.bind_some]
    cases h2 : setB g.1 l with
    | false => rfl
    | true =>
      cases h3 : (decide (1 ≤ r) && decide (r ≤ 8)) with
      | false => rfl
      | true =>
        simp only [Bool.not_true, cond_false, s_IsStopping_j1, Bool.true_and, cond_true]
        have hlen : l.length ≤ 8 := by rw [setB_listN h2]; have := listN_le (p := bq l) (n := g.1.toNat); omega
        rw [loop_all (L := fun k i => s_IsStopping_l1 F l r g k i) (n := l.length) (p := fun i => !decide ((outC g l (l.getD i 0).toNat : Int) ≥ r)) (bad := some (false, true)) (fin := some (decide (0 < l.length), true)) ?_ ?_ F hF]
        · cases allN (fun i => !decide ((outC g l (l.getD i 0).toNat : Int) ≥ r)) l.length <;> rfl
        · intro k i hi
          have hy := setB_range h2 _ (getD_mem (d := 0) hi)
          obtain ⟨x, hx⟩ : ∃ x : Nat, l.getD i 0 = x := ⟨(l.getD i 0).toNat, by omega⟩
          simp only [s_IsStopping_l1]
          rw [decide_eq_true (show (i : Int) < l.length by omega), cond_true, idx_getD (d := 0) hi, Option.bind_some, hx, nbrs_eq h h9 hG hs, Option.bind_some, Option.bind_some, sInside_eq h h2 (by omega) h9 hG hs, Option.bind_some, w64_succ hi hl, listN_len]
          have hsp := cnt_split (p := adj g x) (q := bq l) g.1.toNat
          have hc := cnt_le (p := adj g x) (n := g.1.toNat)
          rw [w64_id (by omega) (by omega)]
          have : ((cntN (adj g x) g.1.toNat : Nat) : Int) - ((cntN (fun j => bq l j && adj g x j) g.1.toNat : Nat) : Int) = (outC g l x : Int) := by unfold outC; omega
          rw [this, Int.toNat_natCast]
          cases decide ((outC g l x : Int) ≥ r) <;> rfl
        · intro k
          simp only [s_IsStopping_l1]
          rw [decide_eq_false (show ¬ (l.length : Int) < l.length by omega), cond_false]
          have : decide (((l.length : Nat) : Int) > 0) = decide (0 < l.length) := by rw [decide_eq_decide]; omega
          rw [this]

theorem drop_mask {g : Gr} {l : List Int} {x : Nat} (hg : good g = true) : ∃ c : Nat, iandNot .i64 ((mkm (adj g x) g.1.toNat : Nat) : Int) ((mkm (bq l) g.1.toNat : Nat) : Int) = (c : Int) ∧ c < 256 ∧ popc c = outC g l x := by
  have h8 := good_size hg
  obtain ⟨c, hc, _, hb⟩ := iandNot_nat (mkm_lt63 (p := adj g x) (n := g.1.toNat) (by omega)) (mkm_lt63 (p := bq l) (n := g.1.toNat) (by omega))
  have e : c = mkm (fun j => adj g x j && !bq l j) g.1.toNat := by
    apply Nat.eq_of_testBit_eq
    intro j
    rw [hb, mkm_bit, mkm_bit, mkm_bit]
    cases decide (j < g.1.toNat) <;> simp
  refine ⟨c, hc, ?_, ?_⟩
  · rw [e]; exact mkm_256 (by omega)
  · rw [e, popc_mkm (by omega)]; rfl

theorem mkm_nz {p : Nat → Bool} {n : Nat} : (((mkm p n : Nat) : Int) != 0) = anyN p n := by
  rw [Bool.eq_iff_iff, bne_iff_ne, anyN_iff]
  constructor
  · intro h
    have hne : mkm p n ≠ 0 := by exact_mod_cast h
    obtain ⟨i, hi⟩ := Nat.exists_testBit_of_ne_zero hne
    rw [mkm_bit] at hi
    simp only [Bool.and_eq_true, decide_eq_true_eq] at hi
    exact ⟨i, hi.1, hi.2⟩
  · rintro ⟨i, h1, h2⟩ h
    have : (mkm p n).testBit i = true := by rw [mkm_bit, decide_eq_true h1, h2]; rfl
    have h0 : mkm p n = 0 := by exact_mod_cast h
    rw [h0] at this; simp at this

theorem bq_any {g : Gr} {l : List Int} (h : setB g.1 l = true) : anyN (bq l) g.1.toNat = decide (0 < l.length) := by
  rw [Bool.eq_iff_iff, anyN_iff, decide_eq_true_eq]
  constructor
  · rintro ⟨i, _, h2⟩
    unfold bq at h2
    exact List.length_pos_of_mem (of_decide_eq_true h2)
  · intro h0
    have hm := getD_mem (d := 0) h0
    have hy := setB_range h _ hm
    refine ⟨(l.getD 0 0).toNat, by omega, ?_⟩
    unfold bq
    rw [decide_eq_true_eq, Int.toNat_of_nonneg hy.1]
    exact hm

theorem iStop_eq {F : Nat} {g : Gr} {l : List Int} {r : Int} (hF : l.length < F) (hG : g.2.length < F) (h9 : 20 ≤ F) (hl : Sm l.length) (hs : Sm g.2.length) :
    i_IsStopping F g l r = some (bif good g && (setB g.1 l && (decide (1 ≤ r) && decide (r ≤ 8))) then (allN (fun i => !decide ((outC g l (l.getD i 0).toNat : Int) ≥ r)) l.length && decide (0 < l.length), true) else (false, false)) := by
  unfold i_IsStopping
  cases h : good g with
  | false =>
    unfold i_isSet i_hasNodes
    rw [isGraph_eq hG (by omega) hs, h]; rfl
  | true =>
    have h8 := good_size h
    rw [isSet_eq h hF hl hG hs (by omega), Option.bind_some]
    cases h2 : setB g.1 l with
    | false => rfl
    | true =>
      simp only [Bool.not_true, cond_false, Bool.true_and]
      rw [within_eq, Option.bind_some]
      cases h3 : (decide (1 ≤ r) && decide (r ≤ 8)) with
      | false => rfl
      | true =>
        simp only [Bool.not_true, cond_false, i_IsStopping_j1, cond_true]
        rw [netOf_eq h hG hs, Option.bind_some, maskSet h h2 hF hl, Option.bind_some, mkm_nz, bq_any h2]
        cases h4 : decide (0 < l.length) with
        | false => simp
        | true =>
          rw [cond_true]
          unfold slices_ContainsFunc_of_i_IsStopping_1 slices_IndexFunc_of_i_IsStopping_1
          obtain ⟨q, h5, h6, _⟩ := loop_first (L := fun k i => slices_IndexFunc_of_i_IsStopping_1_l1 F l ⟨(), ⟨⟨nearL g⟩⟩, ⟨((mkm (bq l) g.1.toNat : Nat) : Int)⟩, ⟨r⟩, ()⟩ k i) (n := l.length) (p := fun i => decide ((outC g l (l.getD i 0).toNat : Int) ≥ r)) (by
            intro k i hi
            have hy := setB_range h2 _ (getD_mem (d := 0) hi)
            obtain ⟨x, hx⟩ : ∃ x : Nat, l.getD i 0 = x := ⟨(l.getD i 0).toNat, by omega⟩
            obtain ⟨c, hc, hc2, hc3⟩ := drop_mask (g := g) (l := l) (x := x) h
            simp only [slices_IndexFunc_of_i_IsStopping_1_l1, i_IsStopping_1]
            rw [decide_eq_true (show (i : Int) < (l.length : Int) by omega), cond_true, idx_getD (d := 0) hi, Option.bind_some, hx, idx_getD (d := 0) (by rw [nearL_len]; omega), Option.bind_some, nearL_get (by omega), hc, ones_eq hc2, Option.bind_some, Option.bind_some, hc3, w64_succ hi hl, Int.toNat_natCast]) (by
            intro k
            simp only [slices_IndexFunc_of_i_IsStopping_1_l1]
            rw [decide_eq_false (show ¬ (l.length : Int) < (l.length : Int) by omega), cond_false]) F hF
          rw [h5, Option.bind_some, Option.bind_some, h6, anyN_eq, Bool.not_not, Bool.and_true]

end Go.Zq
/- The law IsStopping, as a plain statement. -/
namespace Go.Zq

theorem lawIsStopping {F : Nat} {g : Gr} {l : List Int} {k : Int} (hF : 2097152 ≤ F) (hg : g.2.length ≤ 9223372036854775807) : w_FnExactIsStopping F g l k = some true := by
  unfold w_FnExactIsStopping
  by_cases h : (l.length : Int) > 1048576
  · simp [h]
  simp only [h, decide_false, cond_false]
  rw [szGraph_eq (by omega) (by omega) hg, Option.bind_some]
  by_cases h2 : (1048576 : Int) - g.2.length < 0
  · simp [h2]
  simp only [h2, if_false, decide_false, cond_false]
  rw [toGraph_eq (by omega) (by omega) (by omega), toIntS_eq (by omega) (by omega)]
  simp only [Option.bind_some]
  rw [sStop_eq (by omega) (by omega) (by omega) (by unfold Sm; omega) (by unfold Sm; omega), iStop_eq (by omega) (by omega) (by omega) (by unfold Sm; omega) (by unfold Sm; omega)]
  simp only [Option.bind_some, bne_self_eq_false, cond_false, w_FnExactIsStopping_j1]
  rw [toGraph_eq (by omega) (by omega) (by omega), toIntS_eq (by omega) (by omega)]
  simp only [Option.bind_some]
  rw [eqGraph_eq (by omega) (by unfold Sm; omega) (by omega), eqIntS_eq (by omega) (by unfold Sm; omega)]
  rfl

end Go.Zq
