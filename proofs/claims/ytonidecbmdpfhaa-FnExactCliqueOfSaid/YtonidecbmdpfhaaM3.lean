/- Plain mathematics: what the functions answer (part 3). Conditions: stated in each theorem. -/
import Derived.Test.YtonidecbmdpfhaaM2
set_option linter.unusedVariables false
set_option linter.unusedSimpArgs false
/- Plain mathematics: lists compared; the greatest clique. -/
namespace Go.Zq

/-- a list is less -/
def lexB : List Int → List Int → Bool
  | [], [] => false
  | [], _ :: _ => true
  | _ :: _, [] => false
  | x :: xs, y :: ys => if x = y then lexB xs ys else decide (x < y)

theorem drop_nilL {l : List Int} {i : Nat} (h : l.length ≤ i) : l.drop i = [] := List.drop_eq_nil_of_le h
theorem drop_cons {l : List Int} {i : Nat} (h : i < l.length) : l.drop i = l.getD i 0 :: l.drop (i + 1) := by
  rw [List.drop_eq_getElem_cons h]
  simp [h]

theorem sLess_eq {F : Nat} {a b : List Int} (hF : a.length < F) (ha : Sm a.length) : s_l5Less F a b = some (lexB a b) := by
  unfold s_l5Less
  have key : ∀ d k i, i + d = a.length → d < k → s_l5Less_l1 F a b k (i : Int) = some (lexB (a.drop i) (b.drop i)) := by
    intro d
    induction d with
    | zero =>
      intro k i hi hk
      obtain ⟨k, rfl⟩ : ∃ k', k = k' + 1 := ⟨k - 1, by omega⟩
      simp only [s_l5Less_l1, s_l5Less_j1]
      rw [decide_eq_false (show ¬ (i : Int) < a.length by omega), cond_false, cond_false, List.drop_eq_nil_of_le (by omega)]
      by_cases hb : i < b.length
      · rw [drop_cons hb, decide_eq_true (by omega)]; rfl
      · rw [List.drop_eq_nil_of_le (by omega), decide_eq_false (by omega)]; rfl
    | succ d ih =>
      intro k i hi hk
      obtain ⟨k, rfl⟩ : ∃ k', k = k' + 1 := ⟨k - 1, by omega⟩
      have hia : i < a.length := by omega
      simp only [s_l5Less_l1, s_l5Less_j1]
      rw [decide_eq_true (show (i : Int) < a.length by omega), cond_true, drop_cons hia]
      by_cases hb : i < b.length
      · rw [decide_eq_true (show (i : Int) < b.length by omega), cond_true, idx_getD (d := 0) hia, Option.bind_some, idx_getD (d := 0) hb, Option.bind_some, Option.bind_some, Option.bind_some, w64_succ hia ha, drop_cons hb]
        simp only [lexB]
        by_cases e : a.getD i 0 = b.getD i 0
        · rw [if_pos e, e, bne_self_eq_false, cond_false]; exact ih k (i + 1) (by omega) (by omega)
        · have : (a.getD i 0 != b.getD i 0) = true := by simpa using e
          rw [if_neg e, this, cond_true]
      · rw [decide_eq_false (show ¬ (i : Int) < b.length by omega), cond_false, drop_nilL (l := b) (by omega), decide_eq_false (by omega)]; rfl
  have := key a.length F 0 (by omega) (by omega)
  simpa using this

theorem cmpI_eq {F : Nat} {x y : Int} : cmp_Compare_int F x y = some (if x < y then -1 else if x > y then 1 else 0) := by
  unfold cmp_Compare_int cmp_isNaN_int
  simp only [Option.bind_some, bne_self_eq_false, cond_false]
  by_cases h : x < y
  · rw [decide_eq_true h, cond_true, if_pos h]
  · rw [decide_eq_false h, cond_false, if_neg h]
    by_cases h2 : x > y
    · rw [decide_eq_true h2, cond_true, if_pos h2]
    · rw [decide_eq_false h2, cond_false, if_neg h2]

theorem compare_eq {F : Nat} {a b : List Int} (hF : a.length < F) (ha : Sm a.length) : ∃ r, slices_Compare F a b = some r ∧ decide (r < 0) = lexB a b := by
  unfold slices_Compare
  have key : ∀ d k i, i + d = a.length → d < k → ∃ r, slices_Compare_l1 F a b k (i : Int) = some r ∧ (i ≤ b.length → decide (r < 0) = lexB (a.drop i) (b.drop i)) := by
    intro d
    induction d with
    | zero =>
      intro k i hi hk
      obtain ⟨k, rfl⟩ : ∃ k', k = k' + 1 := ⟨k - 1, by omega⟩
      simp only [slices_Compare_l1]
      rw [decide_eq_false (show ¬ (i : Int) < a.length by omega), cond_false, List.drop_eq_nil_of_le (by omega)]
      by_cases hb : i < b.length
      · rw [drop_cons hb, decide_eq_true (show (a.length : Int) < b.length by omega), cond_true]
        exact ⟨_, rfl, fun _ => rfl⟩
      · rw [List.drop_eq_nil_of_le (by omega), decide_eq_false (show ¬ (a.length : Int) < b.length by omega), cond_false]
        exact ⟨_, rfl, fun _ => rfl⟩
    | succ d ih =>
      intro k i hi hk
      obtain ⟨k, rfl⟩ : ∃ k', k = k' + 1 := ⟨k - 1, by omega⟩
      have hia : i < a.length := by omega
      simp only [slices_Compare_l1]
      rw [decide_eq_true (show (i : Int) < a.length by omega), cond_true, idx_getD (d := 0) hia, Option.bind_some, drop_cons hia]
      by_cases hb : i < b.length
      · rw [decide_eq_false (show ¬ (i : Int) ≥ b.length by omega), cond_false, idx_getD (d := 0) hb, Option.bind_some, cmpI_eq, Option.bind_some, w64_succ hia ha, drop_cons hb]
        simp only [lexB]
        obtain ⟨r, h1, h2⟩ := ih k (i + 1) (by omega) (by omega)
        by_cases e : a.getD i 0 = b.getD i 0
        · rw [if_pos e, e, if_neg (by omega), if_neg (by omega), bne_self_eq_false, cond_false]
          exact ⟨r, h1, fun _ => h2 (by omega)⟩
        · rw [if_neg e]
          by_cases e2 : a.getD i 0 < b.getD i 0
          · rw [if_pos e2, decide_eq_true e2]; exact ⟨-1, rfl, fun _ => rfl⟩
          · rw [if_neg e2, if_pos (by omega), decide_eq_false e2]; exact ⟨1, rfl, fun _ => rfl⟩
      · rw [decide_eq_true (show (i : Int) ≥ b.length by omega), cond_true]
        refine ⟨1, rfl, fun h => ?_⟩
        rw [drop_nilL (l := b) (by omega)]; rfl
  obtain ⟨r, h1, h2⟩ := key a.length F 0 (by omega) (by omega)
  exact ⟨r, h1, by simpa using h2 (Nat.zero_le _)⟩

/-- a list has more nodes than the best one, or as many and is less -/
def betB (best l : List Int) : Bool := decide (best.length < l.length) || (best.length == l.length && lexB l best)

theorem better_eq {F : Nat} {b l : List Int} (hF : l.length < F) (hl : Sm l.length) : i_isBetterSet F b l = some (betB b l) := by
  unfold i_isBetterSet betB
  by_cases h : b.length < l.length
  · rw [decide_eq_true (show (l.length : Int) > b.length by omega), cond_true, decide_eq_true h]; rfl
  · rw [decide_eq_false (show ¬ (l.length : Int) > b.length by omega), cond_false, decide_eq_false h]
    by_cases e : b.length = l.length
    · obtain ⟨r, h1, h2⟩ := compare_eq (b := b) hF hl
      have e1 : ((l.length : Int) == (b.length : Int)) = true := by simp; omega
      have e2 : (b.length == l.length) = true := by simpa using e
      rw [e1, cond_true, h1, Option.bind_some, h2, e2]; simp
    · have e1 : ((l.length : Int) == (b.length : Int)) = false := by simp; omega
      have e2 : (b.length == l.length) = false := by simpa using e
      rw [e1, cond_false, e2]; rfl

/-- the best clique of those with numbers below -/
def bcl (g : Gr) : Nat → List Int
  | 0 => []
  | m + 1 => if (clq g m.testBit && betB (bcl g m) (listN m.testBit g.1.toNat)) = true then listN m.testBit g.1.toNat else bcl g m

theorem bcl_len {g : Gr} : ∀ m, (bcl g m).length ≤ g.1.toNat
  | 0 => by simp [bcl]
  | m + 1 => by
    simp only [bcl]
    split
    · exact listN_le
    · exact bcl_len m

theorem bcl_one {g : Gr} : bcl g 1 = [] := by
  have : listN (Nat.testBit 0) g.1.toNat = [] := by
    have : ∀ n, listN (Nat.testBit 0) n = [] := by
      intro n
      induction n with
      | zero => rfl
      | succ n ih => rw [listN_s, Nat.zero_testBit]; simpa using ih
    exact this _
  simp [bcl, this]

theorem exCliqueOf {F : Nat} {g : Gr} (h9 : 300 ≤ F) (hG : g.2.length < F) (hs : Sm g.2.length) :
    ∃ R b o, s_CliqueOf F g = some (R, b) ∧ i_CliqueOf_o F g = some (o, b) ∧ o.list = R ∧ R.length ≤ 8 := by
  unfold s_CliqueOf i_CliqueOf_o
  rw [l2Good_eq hG hs, isGraph_eq hG (by omega) hs, Option.bind_some, Option.bind_some]
  cases h : good g with
  | false => exact ⟨[], false, .nil, rfl, rfl, rfl, by simp⟩
  | true =>
    have h8 := good_size h
    obtain ⟨n, hn⟩ : ∃ n : Nat, g.1.toNat = n := ⟨_, rfl⟩
    have hgn : g.1 = (n : Int) := by omega
    have hpow := Nat.two_pow_pos n
    have h256 : 2 ^ n ≤ 256 := by
      have := Nat.pow_le_pow_right (n := 2) (by decide) (show n ≤ 8 by omega)
      simpa using this
    simp only [Bool.not_true, cond_false]
    rw [netOf_eq h hG hs, Option.bind_some, iAll_eq h, Option.bind_some, mkm_full, hn]
    have hbl := bcl_len (g := g)
    rw [hn] at hbl
    have hS : s_CliqueOf_l1 F g F [] 1 = some (bcl g (2 ^ n), true) := by
      have := loop_inv (L := fun k i s => s_CliqueOf_l1 F g k s (i + 1)) (n := 2 ^ n - 1) (r := some (bcl g (2 ^ n), true)) (fun i s => s = bcl g (i + 1)) (by
        rintro k i s hi rfl
        refine ⟨_, rfl, ?_⟩
        have e : (i : Int) + 1 = ((i + 1 : Nat) : Int) := by omega
        simp only [s_CliqueOf_l1, s_CliqueOf_j2, s_CliqueOf_j1]
        rw [hgn, one_shl (by omega), Option.bind_some, e, decide_eq_true (show ((i + 1 : Nat) : Int) < ((2 ^ n : Nat) : Int) by omega), cond_true, bits_eq (by omega) (by omega) (by omega), Option.bind_some]
        have hc := sClique_eq (p := (i + 1).testBit) h (F := F) (by omega) hG hs
        rw [hn] at hc
        rw [hc, Option.bind_some, w64_id (by omega) (by omega), show ((i + 1 : Nat) : Int) + 1 = ((i + 1 + 1 : Nat) : Int) by omega]
        have hb1 := hbl (i + 1)
        have hl1 := listN_le (p := (i + 1).testBit) (n := n)
        rw [show bcl g (i + 1 + 1) = if (clq g (i + 1).testBit && betB (bcl g (i + 1)) (listN (i + 1).testBit g.1.toNat)) = true then listN (i + 1).testBit g.1.toNat else bcl g (i + 1) from rfl, hn]
        cases hcl : clq g (i + 1).testBit with
        | false => rw [cond_false]; rfl
        | true =>
          rw [cond_true, Bool.true_and]
          unfold betB
          by_cases h1 : (bcl g (i + 1)).length < (listN (i + 1).testBit n).length
          · rw [decide_eq_true (show ((listN (i + 1).testBit n).length : Int) > ((bcl g (i + 1)).length : Int) by omega), cond_true, cond_true, decide_eq_true h1]; rfl
          · rw [decide_eq_false (show ¬ ((listN (i + 1).testBit n).length : Int) > ((bcl g (i + 1)).length : Int) by omega), cond_false, decide_eq_false h1, Bool.false_or]
            by_cases h2 : (bcl g (i + 1)).length = (listN (i + 1).testBit n).length
            · have e1 : (((listN (i + 1).testBit n).length : Int) == ((bcl g (i + 1)).length : Int)) = true := by simp; omega
              have e2 : ((bcl g (i + 1)).length == (listN (i + 1).testBit n).length) = true := by simpa using h2
              rw [e1, cond_true, sLess_eq (by omega) (by unfold Sm; omega), Option.bind_some, e2, Bool.true_and]
              cases lexB (listN (i + 1).testBit n) (bcl g (i + 1)) <;> rfl
            · have e1 : (((listN (i + 1).testBit n).length : Int) == ((bcl g (i + 1)).length : Int)) = false := by simp; omega
              have e2 : ((bcl g (i + 1)).length == (listN (i + 1).testBit n).length) = false := by simpa using h2
              rw [e1, cond_false, e2]; rfl) (by
        rintro k s rfl
        simp only [s_CliqueOf_l1]
        rw [hgn, one_shl (by omega), Option.bind_some, decide_eq_false (show ¬ ((2 ^ n - 1 : Nat) : Int) + 1 < ((2 ^ n : Nat) : Int) by omega), cond_false, show 2 ^ n - 1 + 1 = 2 ^ n by omega]) F [] (by omega) bcl_one.symm
      simpa using this
    obtain ⟨o, hol, hI⟩ := loop_ex (L := fun k i s => i_CliqueOf_o_l1 F ⟨nearL g⟩ ((2 ^ n - 1 : Nat) : Int) k s i) (n := 2 ^ n) (fin := fun s => some (s, true)) (fun i (s : NL Int) => s.list = bcl g i) (by
      intro k i s hi hI
      have hb1 := hbl i
      have hl1 := listN_le (p := i.testBit) (n := n)
      obtain ⟨o, h1, h2⟩ := setOf_o_eq (F := F) (n := n) (p := i.testBit) (by omega) (by omega)
      rw [mkm_self hi] at h1
      have hc := iClique_eq (p := i.testBit) h (F := F) (by omega)
      rw [hn, mkm_self hi] at hc
      simp only [i_CliqueOf_o_l1, i_CliqueOf_o_j2, i_CliqueOf_o_j1]
      have hw : w64 (((2 ^ n - 1 : Nat) : Int) + 1) = ((2 ^ n : Nat) : Int) := by rw [w64_id (by omega) (by omega)]; omega
      rw [hw, decide_eq_true (show (i : Int) < ((2 ^ n : Nat) : Int) by omega), cond_true, h1, Option.bind_some, hc, Option.bind_some, w64_succ hi (by unfold Sm; omega), better_eq (by rw [h2]; omega) (by rw [h2]; unfold Sm; omega), Option.bind_some, hI, h2]
      rw [show bcl g (i + 1) = if (clq g i.testBit && betB (bcl g i) (listN i.testBit g.1.toNat)) = true then listN i.testBit g.1.toNat else bcl g i from rfl, hn]
      cases clq g i.testBit with
      | false => exact ⟨s, hI, by simp⟩
      | true =>
        rw [cond_true, Bool.true_and]
        cases betB (bcl g i) (listN i.testBit n) with
        | true => exact ⟨o, h2, by simp⟩
        | false => exact ⟨s, hI, by simp⟩) (by
      intro k s hI
      simp only [i_CliqueOf_o_l1]
      have hw : w64 (((2 ^ n - 1 : Nat) : Int) + 1) = ((2 ^ n : Nat) : Int) := by rw [w64_id (by omega) (by omega)]; omega
      rw [hw, decide_eq_false (show ¬ ((2 ^ n : Nat) : Int) < ((2 ^ n : Nat) : Int) by omega), cond_false]) F .nil (by omega) rfl
    exact ⟨bcl g (2 ^ n), true, o, hS, hI, hol, by have := hbl (2 ^ n); omega⟩

end Go.Zq
/- The law CliqueOf, as a plain statement. -/
namespace Go.Zq

theorem lawCliqueOf {F : Nat} {g : Gr} (hF : 2097152 ≤ F) (hg : g.2.length ≤ 9223372036854775807) : w_FnExactCliqueOf F g = some true := by
  unfold w_FnExactCliqueOf
  rw [szGraph_eq (by omega) (by omega) hg, Option.bind_some]
  by_cases h2 : (1048576 : Int) - g.2.length < 0
  · simp [h2]
  simp only [h2, if_false, decide_false, cond_false]
  obtain ⟨R, b, o, hs, hi, ho, hl⟩ := exCliqueOf (F := F) (g := g) (by omega) (by omega) (by unfold Sm; omega)
  have e1 : w_toGraph F g = some g := toGraph_eq (by omega) (by omega) (by omega)
  have e2 : w_toGraph_o F g = some (g.1, .of g.2) := toGraph_o_eq (by omega) (by omega) (by omega)
  have e5 : w_eqIntS F o.list R = some true := by rw [ho]; exact eqIntS_eq (by omega) (by unfold Sm; omega)
  have e6 : w_eqGraph F (g.1, (NL.of g.2).list) g = some true := eqGraph_eq (g := g) (by omega) (by unfold Sm; omega) (by omega)
  have e8 : w_markGraph F ⟨g.1, .of g.2⟩ 1 = some (1 + 2 * (g.2.length : Int)) := markGraph_eq (by omega) (by omega) (by omega) (by omega) (by omega)
  have e9 : decide ((1 + 2 * (g.2.length : Int)) < 0) = false := decide_eq_false (by omega)
  obtain ⟨o2, m2, m3, m4⟩ := markIntS_eq (F := F) (o := o) (k := 1) (by rw [ho]; omega) (by rw [ho]; omega) (by omega) (by omega)
  have e10 : w_heldIntS F o2.list 1 = some (1 + (o.list.length : Int)) := by rw [m4]; exact heldIntS_eq (by rw [ho]; omega) (by rw [ho]; omega) (by omega) (by omega)
  have e11 : decide ((1 + (o.list.length : Int)) < 0) = false := decide_eq_false (by omega)
  have hi1 : i_CliqueOf_o F (g.1, (NL.of g.2).list) = some (o, b) := hi
  simp only [w_FnExactCliqueOf_j1, w_FnExactCliqueOf_j2, w_FnExactCliqueOf_j3, e1, e2, e5, e6, e8, e9, e10, e11, hs, hi, hi1, m2, m3, Option.bind_some, Bool.not_true, cond_false, bne_self_eq_false]

end Go.Zq
