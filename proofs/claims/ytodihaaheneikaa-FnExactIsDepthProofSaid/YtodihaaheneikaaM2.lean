/- Plain mathematics: what the functions answer (part 2). Conditions: stated in each theorem. -/
import Derived.Test.YtodihaaheneikaaM1
set_option linter.unusedVariables false
set_option linter.unusedSimpArgs false
/- Plain mathematics: proofs of depth. -/
namespace Go.Zq

abbrev DE := S3 (List Int) Int (List Int)
abbrev de0 : DE := ⟨[], 0, []⟩

def subL (a b : List Int) : Bool := allN (fun i => decide (a.getD i 0 ∈ b)) a.length
theorem subL_iff {a b : List Int} : subL a b = true ↔ ∀ z ∈ a, z ∈ b := by
  unfold subL
  rw [allN_iff]
  constructor
  · intro h z hz
    obtain ⟨i, hi, e⟩ := List.mem_iff_getElem.1 hz
    have := h i hi
    rw [List.getD_eq_getElem?_getD, List.getElem?_eq_getElem hi, Option.getD_some, e] at this
    simpa using this
  · intro h i hi
    rw [decide_eq_true_eq]; exact h _ (getD_mem hi)

theorem l7Part_eq {F : Nat} {a b : List Int} (ha : a.length < F) (hb : b.length < F) (hsa : Sm a.length) (hsb : Sm b.length) : s_l7Part F a b = some (subL a b) := by
  unfold s_l7Part subL
  rw [loop_all (L := fun k i => s_l7Part_l1 F a b k i) (n := a.length) (p := fun i => decide (a.getD i 0 ∈ b)) (bad := some false) (fin := some true) ?_ ?_ F ha]
  · cases allN (fun i => decide (a.getD i 0 ∈ b)) a.length <;> rfl
  · intro k i hi
    simp only [s_l7Part_l1]
    rw [decide_eq_true (show (i : Int) < (a.length : Int) by omega), cond_true, idx_getD (d := 0) hi, Option.bind_some, l1Has_eq hb hsb, Option.bind_some, w64_succ hi hsa]
    cases decide (a.getD i 0 ∈ b) <;> rfl
  · intro k
    simp only [s_l7Part_l1]
    rw [decide_eq_false (show ¬ (a.length : Int) < (a.length : Int) by omega), cond_false]

/-- the entry at a place, the next one at another -/
def nxD (pr : List DE) (e : DE) (k : Nat) : DE := pr.getD (e.c.getD k 0).toNat de0
def nxP (pr : List DE) (i : Nat) (e : DE) (k : Nat) : Bool :=
  (decide ((i : Int) + 1 ≤ e.c.getD k 0) && decide (e.c.getD k 0 ≤ (pr.length : Int) - 1)) && ((nxD pr e k).b == e.b - 1) && (subL (nxD pr e k).a e.a && !decide (e.a.getD k 0 ∈ (nxD pr e k).a))
/-- an entry that is right, as the reference has it -/
def sE (g : Gr) (pr : List DE) (i : Nat) : Bool :=
  setB g.1 (pr.getD i de0).a && ((prt g g.1.toNat (bq (pr.getD i de0).a)).length == 1) && decide (1 ≤ (pr.getD i de0).b) &&
    (bif (pr.getD i de0).b == 1 then (pr.getD i de0).c.length == 0 else
      allN (nxP pr i (pr.getD i de0)) (min (pr.getD i de0).c.length (pr.getD i de0).a.length) && ((pr.getD i de0).c.length == (pr.getD i de0).a.length))
/-- the same, as the program has it -/
def iE (g : Gr) (pr : List DE) (i : Nat) : Bool :=
  setB g.1 (pr.getD i de0).a && ((prt g g.1.toNat (bq (pr.getD i de0).a)).length == 1) && decide (1 ≤ (pr.getD i de0).b) &&
    (bif (pr.getD i de0).b == 1 then (pr.getD i de0).c.length == 0 else
      ((pr.getD i de0).c.length == (pr.getD i de0).a.length) && allN (fun k => nxP pr i (pr.getD i de0) k && setB g.1 (nxD pr (pr.getD i de0) k).a) (pr.getD i de0).c.length)

theorem all_same {g : Gr} {pr : List DE} : allN (sE g pr) pr.length = allN (iE g pr) pr.length := by
  rw [Bool.eq_iff_iff, allN_iff, allN_iff]
  constructor
  · intro h i hi
    have h1 := h i hi
    unfold sE at h1
    unfold iE
    rw [Bool.and_eq_true] at h1 ⊢
    refine ⟨h1.1, ?_⟩
    have h2 := h1.2
    cases hb : ((pr.getD i de0).b == 1) with
    | true => rw [hb] at h2; exact h2
    | false =>
      rw [hb, cond_false, Bool.and_eq_true] at h2
      rw [cond_false, Bool.and_eq_true]
      refine ⟨h2.2, ?_⟩
      have hlen : (pr.getD i de0).c.length = (pr.getD i de0).a.length := by simpa using h2.2
      rw [hlen, Nat.min_self] at h2
      rw [hlen]
      refine allN_iff.2 fun k hk => ?_
      have h3 := allN_iff.1 h2.1 k hk
      rw [Bool.and_eq_true]
      refine ⟨h3, ?_⟩
      unfold nxP at h3
      simp only [Bool.and_eq_true, decide_eq_true_eq] at h3
      have h4 := h ((pr.getD i de0).c.getD k 0).toNat (by omega)
      unfold sE at h4
      simp only [Bool.and_eq_true] at h4
      exact h4.1.1.1
  · intro h i hi
    have h1 := h i hi
    unfold iE at h1
    unfold sE
    rw [Bool.and_eq_true] at h1 ⊢
    refine ⟨h1.1, ?_⟩
    have h2 := h1.2
    cases hb : ((pr.getD i de0).b == 1) with
    | true => rw [hb] at h2; exact h2
    | false =>
      rw [hb, cond_false, Bool.and_eq_true] at h2
      rw [cond_false, Bool.and_eq_true]
      refine ⟨?_, h2.1⟩
      have hlen : (pr.getD i de0).c.length = (pr.getD i de0).a.length := by simpa using h2.1
      rw [← hlen, Nat.min_self]
      refine allN_iff.2 fun k hk => ?_
      have h3 := allN_iff.1 h2.2 k hk
      rw [Bool.and_eq_true] at h3
      exact h3.1

structure Pf (F : Nat) (pr : List DE) : Prop where
  len : pr.length ≤ 1048576
  each : ∀ x ∈ pr, x.a.length ≤ 1048576 ∧ x.c.length ≤ 1048576 ∧ (Lit.int .i64 x.b).wf = true
  fuel : 1048577 ≤ F

theorem Pf.at {F : Nat} {pr : List DE} (h : Pf F pr) {i : Nat} (hi : i < pr.length) : (pr.getD i de0).a.length ≤ 1048576 ∧ (pr.getD i de0).c.length ≤ 1048576 ∧ (Lit.int .i64 (pr.getD i de0).b).wf = true := h.each _ (getD_mem hi)

theorem intB_eq {n m : Nat} : ((n : Int) == (m : Int)) = (n == m) := by
  rw [Bool.eq_iff_iff, beq_iff_eq, beq_iff_eq]; omega

theorem sEntry_eq {F : Nat} {g : Gr} {pr : List DE} {i : Nat} (hg : good g = true) (hp : Pf F pr) (hi : i < pr.length) (hG : g.2.length < F) (hs : Sm g.2.length) : s_l7Entry F g pr (i : Int) = some (sE g pr i) := by
  have hf := hp.fuel
  have hl := hp.len
  obtain ⟨ha, hc, hw⟩ := hp.at hi
  have hr := okI_iff.1 hw
  unfold s_l7Entry sE s_l7Entry_j3
  rw [idx_getD (d := de0) hi, Option.bind_some]
  obtain ⟨e, he⟩ : ∃ e, pr.getD i de0 = e := ⟨_, rfl⟩
  rw [he] at ha hc hw hr ⊢
  rw [l2Set_eq hg (by omega) (by unfold Sm; omega), Option.bind_some]
  cases p1 : setB g.1 e.a with
  | false => rfl
  | true =>
    have hpl := setB_listN p1
    have hsp := sParts_eq (F := F) (p := bq e.a) hg (by omega) hG hs
    rw [← hpl] at hsp
    rw [Bool.not_true, cond_false, hsp, Option.bind_some, List.length_map, one_len]
    cases p2 : ((prt g g.1.toNat (bq e.a)).length == 1) with
    | false => rfl
    | true =>
      rw [Bool.not_true, cond_false, Bool.true_and, Bool.true_and]
      by_cases h1 : 1 ≤ e.b
      · rw [decide_eq_true h1, decide_eq_false (by omega), cond_false, Bool.true_and]
        cases hb : (e.b == 1) with
        | true =>
          rw [cond_true, cond_true]
          congr 1
          exact intB_eq (m := 0)
        | false =>
          have hb2 : e.b ≠ 1 := by simpa using hb
          have hw1 : w64 (e.b - 1) = e.b - 1 := w64_id (by omega) (by omega)
          have hwi : w64 ((i : Int) + 1) = (i : Int) + 1 := w64_id (by omega) (by omega)
          have hwn : w64 ((pr.length : Int) - 1) = (pr.length : Int) - 1 := w64_id (by omega) (by omega)
          rw [cond_false, cond_false]
          rw [loop_all (L := fun k t => s_l7Entry_l1 F pr (i : Int) e k t) (n := min e.c.length e.a.length) (p := nxP pr i e) (bad := some false) (fin := some (e.c.length == e.a.length)) ?_ ?_ F (by omega)]
          · cases allN (nxP pr i e) (min e.c.length e.a.length) <;> simp
          · intro k t ht
            have htc : t < e.c.length := by omega
            have hta : t < e.a.length := by omega
            simp only [s_l7Entry_l1, s_l7Entry_j1, s_l7Entry_j2]
            rw [decide_eq_true (show (t : Int) < (e.c.length : Int) by omega), cond_true, decide_eq_true (show (t : Int) < (e.a.length : Int) by omega), cond_true, idx_getD (d := 0) htc, Option.bind_some, hwi, hwn, l1In_eq, Option.bind_some, Option.bind_some]
            unfold nxP
            by_cases hin : (i : Int) + 1 ≤ e.c.getD t 0 ∧ e.c.getD t 0 ≤ (pr.length : Int) - 1
            · obtain ⟨z, hz⟩ : ∃ z : Nat, e.c.getD t 0 = z := ⟨(e.c.getD t 0).toNat, by omega⟩
              have hzl : z < pr.length := by omega
              have hzd : nxD pr e t = pr.getD z de0 := by unfold nxD; rw [hz, Int.toNat_natCast]
              obtain ⟨hya, hyc, hyw⟩ := hp.at hzl
              rw [decide_eq_true hin.1, decide_eq_true hin.2, Bool.and_self, Bool.not_true, cond_false, hz, idx_getD (d := de0) hzl, Option.bind_some, hw1, hzd, Bool.true_and]
              have hbn : ((pr.getD z de0).b != e.b - 1) = !((pr.getD z de0).b == e.b - 1) := rfl
              rw [hbn]
              cases hyb : ((pr.getD z de0).b == e.b - 1) with
              | false => rfl
              | true =>
                rw [Bool.not_true, cond_false, l7Part_eq (by omega) (by omega) (by unfold Sm; omega) (by unfold Sm; omega), Option.bind_some, Bool.true_and]
                cases subL (pr.getD z de0).a e.a with
                | false => rfl
                | true =>
                  rw [Bool.not_true, cond_false, idx_getD (d := 0) hta, Option.bind_some, l1Has_eq (by omega) (by unfold Sm; omega), Option.bind_some, w64_succ (n := e.c.length) htc (by unfold Sm; omega), Bool.true_and]
                  cases decide (e.a.getD t 0 ∈ (pr.getD z de0).a) <;> rfl
            · have : (decide ((i : Int) + 1 ≤ e.c.getD t 0) && decide (e.c.getD t 0 ≤ (pr.length : Int) - 1)) = false := by
                rw [Bool.eq_false_iff]; intro h
                simp only [Bool.and_eq_true, decide_eq_true_eq] at h
                exact hin h
              rw [this]; rfl
          · intro k
            simp only [s_l7Entry_l1, s_l7Entry_j2]
            by_cases hlt : e.c.length ≤ e.a.length
            · rw [Nat.min_eq_left hlt, decide_eq_false (show ¬ (e.c.length : Int) < (e.c.length : Int) by omega), cond_false, cond_false, intB_eq]
            · rw [Nat.min_eq_right (by omega), decide_eq_true (show (e.a.length : Int) < (e.c.length : Int) by omega), cond_true, decide_eq_false (show ¬ (e.a.length : Int) < (e.a.length : Int) by omega), cond_false, intB_eq]
      · rw [decide_eq_false h1, decide_eq_true (by omega), cond_true, Bool.false_and]

theorem maskDiff {g : Gr} {a y : List Int} {x : Int} (hg : good g = true) (ha : setB g.1 a = true) (hy : setB g.1 y = true) (hx : x ∈ a) :
    (iandNot .i64 ((mkm (bq y) g.1.toNat : Nat) : Int) (iandNot .i64 ((mkm (bq a) g.1.toNat : Nat) : Int) ((2 ^ x.toNat : Nat) : Int)) != 0) = !(subL y a && !decide (x ∈ y)) := by
  have h8 := good_size hg
  have hxr := setB_range ha x hx
  obtain ⟨z, hz⟩ : ∃ z : Nat, x = z := ⟨x.toNat, by omega⟩
  subst hz
  rw [Int.toNat_natCast]
  obtain ⟨c1, e1, l1, b1⟩ := iandNot_nat (mkm_lt63 (p := bq a) (n := g.1.toNat) (by omega)) (pow_lt (j := z) (by omega))
  have hm := mkm_lt63 (p := bq a) (n := g.1.toNat) (by omega)
  rw [e1]
  obtain ⟨c2, e2, l2, b2⟩ := iandNot_nat (mkm_lt63 (p := bq y) (n := g.1.toNat) (by omega)) (show c1 < 9223372036854775808 by omega)
  rw [e2]
  have hiff : c2 = 0 ↔ (subL y a && !decide ((z : Int) ∈ y)) = true := by
    rw [Bool.and_eq_true, subL_iff, Bool.not_eq_true', decide_eq_false_iff_not]
    constructor
    · intro h0
      have hb : ∀ j : Nat, (j : Int) ∈ y → (j : Int) ∈ a ∧ j ≠ z := by
        intro j hj
        have hjr := setB_range hy _ hj
        have := b2 j
        rw [h0, Nat.zero_testBit, mkm_bit, b1, mkm_bit, decide_eq_true (show j < g.1.toNat by omega), Bool.true_and, Bool.true_and, Nat.testBit_two_pow] at this
        have hyj : bq y j = true := decide_eq_true hj
        rw [hyj, Bool.true_and] at this
        have h2 : (bq a j && !decide (z = j)) = true := by
          cases hh : (bq a j && !decide (z = j)) with
          | true => rfl
          | false => rw [hh] at this; cases this
        simp only [Bool.and_eq_true, Bool.not_eq_true', decide_eq_false_iff_not] at h2
        exact ⟨of_decide_eq_true h2.1, fun e => h2.2 e.symm⟩
      refine ⟨fun w hw => ?_, fun h => (hb z h).2 rfl⟩
      have hwr := setB_range hy w hw
      obtain ⟨j, rfl⟩ : ∃ j : Nat, w = j := ⟨w.toNat, by omega⟩
      exact (hb j hw).1
    · rintro ⟨h1, h2⟩
      apply Nat.eq_of_testBit_eq
      intro j
      rw [b2, b1, mkm_bit, mkm_bit, Nat.zero_testBit, Nat.testBit_two_pow]
      by_cases hj : j < g.1.toNat
      · rw [decide_eq_true hj, Bool.true_and, Bool.true_and]
        cases hyj : bq y j with
        | false => rfl
        | true =>
          have hm1 : (j : Int) ∈ y := of_decide_eq_true hyj
          have haj : bq a j = true := decide_eq_true (h1 _ hm1)
          have hne : z ≠ j := fun e => h2 (e ▸ hm1)
          rw [haj, decide_eq_false hne]; rfl
      · rw [decide_eq_false hj]; rfl
  cases hh : (subL y a && !decide ((z : Int) ∈ y)) with
  | true => rw [hiff.2 hh]; rfl
  | false =>
    have : c2 ≠ 0 := fun e => by rw [hiff.1 e] at hh; cases hh
    simp [this]

theorem iEntry_eq {F : Nat} {g : Gr} {pr : List DE} {i : Nat} (hg : good g = true) (hp : Pf F pr) (hi : i < pr.length) (hG : g.2.length < F) (hs : Sm g.2.length) : i_isDepthEntry F g pr (i : Int) = some (iE g pr i) := by
  have hf := hp.fuel
  have hl := hp.len
  have h8 := good_size hg
  obtain ⟨ha, hc, hw⟩ := hp.at hi
  have hr := okI_iff.1 hw
  unfold i_isDepthEntry iE i_isDepthEntry_j2
  rw [idx_getD (d := de0) hi, Option.bind_some]
  obtain ⟨e, he⟩ : ∃ e, pr.getD i de0 = e := ⟨_, rfl⟩
  rw [he] at ha hc hw hr ⊢
  rw [isSet_eq hg (by omega) (by unfold Sm; omega) hG hs (by omega), Option.bind_some]
  cases p1 : setB g.1 e.a with
  | false => rfl
  | true =>
    rw [Bool.not_true, cond_false, netOf_eq hg hG hs, Option.bind_some, maskSet hg p1 (by omega) (by unfold Sm; omega), Option.bind_some, parts_eq hg (by omega), Option.bind_some, List.length_map, one_len]
    cases p2 : ((prt g g.1.toNat (bq e.a)).length == 1) with
    | false => rfl
    | true =>
      rw [Bool.not_true, cond_false, Bool.true_and, Bool.true_and]
      by_cases h1 : 1 ≤ e.b
      · rw [decide_eq_true h1, decide_eq_false (by omega), cond_false, Bool.true_and]
        cases hb : (e.b == 1) with
        | true =>
          rw [cond_true, cond_true]
          congr 1
          exact intB_eq (m := 0)
        | false =>
          have hb2 : e.b ≠ 1 := by simpa using hb
          have hw1 : w64 (e.b - 1) = e.b - 1 := w64_id (by omega) (by omega)
          have hwi : w64 ((i : Int) + 1) = (i : Int) + 1 := w64_id (by omega) (by omega)
          have hwn : w64 ((pr.length : Int) - 1) = (pr.length : Int) - 1 := w64_id (by omega) (by omega)
          rw [cond_false, cond_false]
          have hne : ((e.c.length : Int) != (e.a.length : Int)) = !(e.c.length == e.a.length) := by
            rw [← intB_eq]; rfl
          rw [hne]
          cases hle : (e.c.length == e.a.length) with
          | false => rfl
          | true =>
            have hlen : e.c.length = e.a.length := by simpa using hle
            rw [Bool.not_true, cond_false, Bool.true_and]
            rw [loop_all (L := fun k t => i_isDepthEntry_l1 F pr (i : Int) g e k t) (n := e.c.length) (p := fun k => nxP pr i e k && setB g.1 (nxD pr e k).a) (bad := some false) (fin := some true) ?_ ?_ F (by omega)]
            · cases allN (fun k => nxP pr i e k && setB g.1 (nxD pr e k).a) e.c.length <;> rfl
            · intro k t ht
              have hta : t < e.a.length := by omega
              simp only [i_isDepthEntry_l1, i_isDepthEntry_j1]
              rw [decide_eq_true (show (t : Int) < (e.c.length : Int) by omega), cond_true, idx_getD (d := 0) ht, Option.bind_some, hwi, hwn, within_eq, Option.bind_some]
              unfold nxP
              by_cases hin : (i : Int) + 1 ≤ e.c.getD t 0 ∧ e.c.getD t 0 ≤ (pr.length : Int) - 1
              · obtain ⟨z, hz⟩ : ∃ z : Nat, e.c.getD t 0 = z := ⟨(e.c.getD t 0).toNat, by omega⟩
                have hzl : z < pr.length := by omega
                have hzd : nxD pr e t = pr.getD z de0 := by unfold nxD; rw [hz, Int.toNat_natCast]
                obtain ⟨hya, hyc, hyw⟩ := hp.at hzl
                rw [decide_eq_true hin.1, decide_eq_true hin.2, Bool.and_self, Bool.not_true, cond_false, hz, idx_getD (d := de0) hzl, Option.bind_some, hw1, hzd, Bool.true_and]
                have hbn : ((pr.getD z de0).b != e.b - 1) = !((pr.getD z de0).b == e.b - 1) := rfl
                rw [hbn]
                cases hyb : ((pr.getD z de0).b == e.b - 1) with
                | false => rfl
                | true =>
                  rw [Bool.not_true, cond_false, Option.bind_some, isSet_eq hg (by omega) (by unfold Sm; omega) hG hs (by omega), Option.bind_some, Bool.true_and]
                  cases py : setB g.1 (pr.getD z de0).a with
                  | false => rw [Bool.and_false]; rfl
                  | true =>
                    have hxm : e.a.getD t 0 ∈ e.a := getD_mem hta
                    have hxr := setB_range p1 _ hxm
                    have hsh := one_shl (j := (e.a.getD t 0).toNat) (by omega)
                    rw [Int.toNat_of_nonneg hxr.1] at hsh
                    rw [Bool.not_true, cond_false, Option.bind_some, maskSet hg py (by omega) (by unfold Sm; omega), Option.bind_some, maskSet hg p1 (by omega) (by unfold Sm; omega), Option.bind_some, idx_getD (d := 0) hta, Option.bind_some, hsh, Option.bind_some, maskDiff hg p1 py hxm, Bool.and_true, w64_succ ht (by unfold Sm; omega)]
                    cases (subL (pr.getD z de0).a e.a && !decide (e.a.getD t 0 ∈ (pr.getD z de0).a)) <;> rfl
              · have : (decide ((i : Int) + 1 ≤ e.c.getD t 0) && decide (e.c.getD t 0 ≤ (pr.length : Int) - 1)) = false := by
                  rw [Bool.eq_false_iff]; intro h
                  simp only [Bool.and_eq_true, decide_eq_true_eq] at h
                  exact hin h
                rw [this]; rfl
            · intro k
              simp only [i_isDepthEntry_l1]
              rw [decide_eq_false (show ¬ (e.c.length : Int) < (e.c.length : Int) by omega), cond_false]
      · rw [decide_eq_false h1, decide_eq_true (by omega), cond_true, Bool.false_and]

def prB (g : Gr) (pr : List DE) : Bool := (decide (1 ≤ (pr.length : Int)) && decide ((pr.length : Int) ≤ 200)) && allN (sE g pr) pr.length

theorem sIsDP_eq {F : Nat} {g : Gr} {pr : List DE} (hp : Pf F pr) (hG : g.2.length < F) (hs : Sm g.2.length) : s_IsDepthProof F g pr = some (good g && prB g pr, good g) := by
  have hf := hp.fuel
  have hl := hp.len
  unfold s_IsDepthProof s_l7Proof prB
  rw [l2Good_eq hG hs, Option.bind_some]
  cases hg : good g with
  | false => rfl
  | true =>
    rw [Bool.not_true, cond_false, l1In_eq, Option.bind_some, Bool.true_and]
    cases (decide (1 ≤ (pr.length : Int)) && decide ((pr.length : Int) ≤ 200)) with
    | false => rfl
    | true =>
      rw [Bool.not_true, cond_false, Bool.true_and]
      rw [loop_all (L := fun k i => s_l7Proof_l1 F pr g k i) (n := pr.length) (p := sE g pr) (bad := some false) (fin := some true) ?_ ?_ F (by omega)]
      · cases allN (sE g pr) pr.length <;> rfl
      · intro k i hi
        simp only [s_l7Proof_l1]
        rw [decide_eq_true (show (i : Int) < (pr.length : Int) by omega), cond_true, sEntry_eq hg hp hi hG hs, Option.bind_some, w64_succ hi (by unfold Sm; omega)]
        cases sE g pr i <;> rfl
      · intro k
        simp only [s_l7Proof_l1]
        rw [decide_eq_false (show ¬ (pr.length : Int) < (pr.length : Int) by omega), cond_false]

theorem iIsDP_eq {F : Nat} {g : Gr} {pr : List DE} (hp : Pf F pr) (hG : g.2.length < F) (hs : Sm g.2.length) : i_IsDepthProof F g pr = some (good g && prB g pr, good g) := by
  have hf := hp.fuel
  have hl := hp.len
  unfold i_IsDepthProof prB
  rw [isGraph_eq hG (by omega) hs, Option.bind_some]
  cases hg : good g with
  | false => rfl
  | true =>
    rw [Bool.not_true, cond_false, within_eq, Option.bind_some, Bool.true_and]
    cases (decide (1 ≤ (pr.length : Int)) && decide ((pr.length : Int) ≤ 200)) with
    | false => rfl
    | true =>
      rw [Bool.not_true, cond_false, Bool.true_and, all_same]
      rw [loop_all (L := fun k i => i_IsDepthProof_l1 F pr g k i) (n := pr.length) (p := iE g pr) (bad := some (false, true)) (fin := some (true, true)) ?_ ?_ F (by omega)]
      · cases allN (iE g pr) pr.length <;> rfl
      · intro k i hi
        simp only [i_IsDepthProof_l1]
        rw [decide_eq_true (show (i : Int) < (pr.length : Int) by omega), cond_true, iEntry_eq hg hp hi hG hs, Option.bind_some, w64_succ hi (by unfold Sm; omega)]
        cases iE g pr i <;> rfl
      · intro k
        simp only [i_IsDepthProof_l1]
        rw [decide_eq_false (show ¬ (pr.length : Int) < (pr.length : Int) by omega), cond_false]

end Go.Zq
/- Plain mathematics: copies and sizes of proofs of depth. -/
namespace Go.Zq

def sumD (xs : List DE) : Nat → Nat
  | 0 => 0
  | i + 1 => sumD xs i + (xs.getD i de0).a.length + (xs.getD i de0).c.length
theorem sumD_mono {xs : List DE} : ∀ {i j : Nat}, i ≤ j → sumD xs i ≤ sumD xs j
  | i, 0, h => by obtain rfl : i = 0 := by omega
                  exact Nat.le_refl _
  | i, j + 1, h => by
    by_cases e : i = j + 1
    · subst e; exact Nat.le_refl _
    · have := sumD_mono (xs := xs) (i := i) (j := j) (by omega)
      simp only [sumD]; omega
theorem sumD_le {xs : List DE} {i : Nat} (h : i < xs.length) : (xs.getD i de0).a.length + (xs.getD i de0).c.length ≤ sumD xs xs.length := by
  have := sumD_mono (xs := xs) (i := i + 1) (j := xs.length) (by omega)
  simp only [sumD] at this; omega

theorem szDE_eq {F : Nat} {x : DE} {l : Int} (h0 : 0 ≤ l) (hl : l ≤ 1048576) (h1 : x.a.length ≤ 9223372036854775807) (h2 : x.c.length ≤ 9223372036854775807) :
    w_szDepthEntry F x l = some (if l - x.a.length - x.c.length < 0 then -1 else l - x.a.length - x.c.length) := by
  unfold w_szDepthEntry
  rw [szIntS_eq h0 hl h1, Option.bind_some]
  by_cases h : l - (x.a.length : Int) < 0
  · rw [if_pos h, if_pos (by omega)]; rfl
  · rw [if_neg h, decide_eq_false h, cond_false, szIntS_eq (by omega) (by omega) h2, Option.bind_some]
    by_cases h3 : l - (x.a.length : Int) - x.c.length < 0
    · rw [if_pos h3]; rfl
    · rw [if_neg h3, decide_eq_false h3]; rfl

theorem szDES_eq {F : Nat} {xs : List DE} {l : Int} (hF : 1048577 ≤ F) (h0 : 0 ≤ l) (hl : l ≤ 1048576) (hm : xs.length ≤ 9223372036854775807) (hm2 : ∀ x ∈ xs, x.a.length ≤ 9223372036854775807 ∧ x.c.length ≤ 9223372036854775807) :
    ∃ r, w_szDepthEntryS F xs l = some r ∧ (0 ≤ r → (xs.length : Int) + sumD xs xs.length + r = l) := by
  unfold w_szDepthEntryS
  rw [w64_id (by omega) (by omega)]
  by_cases h : l - (xs.length : Int) < 0
  · refine ⟨-1, by simp [h], by omega⟩
  · rw [decide_eq_false h, cond_false]
    have := loop_st (L := fun k i s => w_szDepthEntryS_l1 F xs k s i) (n := xs.length) (fun i s => s = l - xs.length - (sumD xs i : Nat) ∧ 0 ≤ s) (p := fun i => decide (0 ≤ l - xs.length - (sumD xs (i + 1) : Nat))) (r := some (l - xs.length - (sumD xs xs.length : Nat))) (bad := some (-1)) ?_ ?_ ?_ F (l - xs.length) (by omega) ?_
    · rw [this]
      cases allN (fun i => decide (0 ≤ l - (xs.length : Int) - (sumD xs (i + 1) : Nat))) xs.length with
      | true => exact ⟨_, rfl, fun _ => by omega⟩
      | false => exact ⟨-1, rfl, by omega⟩
    · rintro k i s hi ⟨rfl, hs⟩ hp
      simp only [decide_eq_true_eq] at hp
      refine ⟨_, ⟨rfl, hp⟩, ?_⟩
      have hmem := hm2 _ (getD_mem (d := de0) hi)
      simp only [w_szDepthEntryS_l1]
      rw [decide_eq_true (show (i : Int) < (xs.length : Int) by omega), cond_true, idx_getD (d := de0) hi, Option.bind_some, szDE_eq hs (by omega) hmem.1 hmem.2, Option.bind_some, w64_succ hi (by unfold Sm; omega)]
      simp only [sumD] at hp ⊢
      rw [if_neg (by omega), decide_eq_false (by omega), cond_false]
      congr 1; omega
    · rintro k i s hi ⟨rfl, hs⟩ hp
      simp only [decide_eq_false_iff_not] at hp
      have hmem := hm2 _ (getD_mem (d := de0) hi)
      simp only [w_szDepthEntryS_l1]
      rw [decide_eq_true (show (i : Int) < (xs.length : Int) by omega), cond_true, idx_getD (d := de0) hi, Option.bind_some, szDE_eq hs (by omega) hmem.1 hmem.2, Option.bind_some]
      simp only [sumD] at hp
      rw [if_pos (by omega)]; rfl
    · rintro k s ⟨rfl, hs⟩
      simp only [w_szDepthEntryS_l1]
      rw [decide_eq_false (show ¬ (xs.length : Int) < (xs.length : Int) by omega), cond_false]
    · exact ⟨by simp [sumD], by omega⟩

theorem Pf.of {F : Nat} {pr : List DE} (h : pr.length + sumD pr pr.length ≤ 1048576) (hF : 1048577 ≤ F) (hw : ∀ x ∈ pr, (Lit.int .i64 x.b).wf = true) : Pf F pr := by
  refine ⟨by omega, fun x hx => ?_, hF⟩
  obtain ⟨i, hi, e⟩ := List.mem_iff_getElem.1 hx
  have := sumD_le hi
  rw [List.getD_eq_getElem?_getD, List.getElem?_eq_getElem hi, Option.getD_some, e] at this
  exact ⟨by omega, by omega, hw x hx⟩

theorem toDE_eq {F : Nat} {x : DE} (h1 : x.a.length < F ∧ x.a.length ≤ 1099511627776) (h2 : x.c.length < F ∧ x.c.length ≤ 1099511627776) : w_toDepthEntry F x = some x := by
  unfold w_toDepthEntry
  rw [toIntS_eq h1.1 h1.2, toIntS_eq h2.1 h2.2]; rfl
theorem eqDE_eq {F : Nat} {x : DE} (h1 : x.a.length < F ∧ Sm x.a.length) (h2 : x.c.length < F ∧ Sm x.c.length) : w_eqDepthEntry F x x = some true := by
  unfold w_eqDepthEntry
  rw [eqIntS_eq h1.1 h1.2, eqIntS_eq h2.1 h2.2]; simp

theorem Pf.to {F : Nat} {pr : List DE} (h : Pf F pr) : w_toDepthEntryS F pr = some pr := by
  have h1 := h.len
  have h2 := h.fuel
  unfold w_toDepthEntryS
  rw [mkN_nat (by omega), Option.bind_some]
  refine loop_inv (L := fun k i s => w_toDepthEntryS_l1 F pr k s i) (n := pr.length) (fun i ys => ys.length = pr.length ∧ ys.take i = pr.take i) ?_ ?_ F _ (by omega) (by simp)
  · intro k i s hi hI
    refine ⟨_, copied hI hi, ?_⟩
    have hx := h.each _ (List.getElem_mem hi)
    simp only [w_toDepthEntryS_l1]
    rw [idx_nat hi, idx_nat (by omega), w64_succ hi (by unfold Sm; omega)]
    simp [hi, toDE_eq (F := F) (x := pr[i]) ⟨by omega, by omega⟩ ⟨by omega, by omega⟩]
  · intro k s hI
    simp only [w_toDepthEntryS_l1]
    rw [copied_end hI]; simp

theorem Pf.eq {F : Nat} {pr : List DE} (h : Pf F pr) : w_eqDepthEntryS F pr pr = some true := by
  have h1 := h.len
  have h2 := h.fuel
  unfold w_eqDepthEntryS
  simp only [bne_self_eq_false, cond_false]
  rw [loop_all (L := fun k i => w_eqDepthEntryS_l1 F pr pr k i) (n := pr.length) (p := fun _ => true) (bad := none) (fin := some true) ?_ ?_ F (by omega)]
  · rw [allN_iff.2 (fun _ _ => rfl)]; rfl
  · intro k i hi
    have hx := h.each _ (List.getElem_mem hi)
    simp only [w_eqDepthEntryS_l1]
    rw [idx_nat hi, w64_succ hi (by unfold Sm; omega)]
    simp [hi, eqDE_eq (F := F) (x := pr[i]) ⟨by omega, by unfold Sm; omega⟩ ⟨by omega, by unfold Sm; omega⟩]
  · intro k; simp [w_eqDepthEntryS_l1]

end Go.Zq
/- The law IsDepthProof, as a plain statement. -/
namespace Go.Zq

theorem lawIsDepthProof {F : Nat} {g : Gr} {b : List DE} (hF : 2097152 ≤ F) (hg : g.2.length ≤ 9223372036854775807) (hb1 : b.length ≤ 9223372036854775807) (hb2 : ∀ x ∈ b, x.a.length ≤ 9223372036854775807 ∧ x.c.length ≤ 9223372036854775807) (hb3 : ∀ x ∈ b, (Lit.int .i64 x.b).wf = true) : w_FnExactIsDepthProof F g b = some true := by
  unfold w_FnExactIsDepthProof
  rw [szGraph_eq (by omega) (by omega) hg, Option.bind_some]
  by_cases h2 : (1048576 : Int) - g.2.length < 0
  · simp [h2]
  simp only [h2, if_false, decide_false, cond_false]
  obtain ⟨r, hr, hr2⟩ := szDES_eq (F := F) (xs := b) (l := 1048576 - g.2.length) (by omega) (by omega) (by omega) hb1 hb2
  rw [hr, Option.bind_some]
  by_cases h3 : r < 0
  · simp [h3]
  have h4 := hr2 (by omega)
  have hB : Pf F b := Pf.of (by omega) (by omega) hb3
  simp only [h3, decide_false, cond_false]
  rw [toGraph_eq (by omega) (by omega) (by omega), hB.to]
  simp only [Option.bind_some]
  rw [sIsDP_eq hB (by omega) (by unfold Sm; omega), iIsDP_eq hB (by omega) (by unfold Sm; omega)]
  simp only [Option.bind_some, bne_self_eq_false, cond_false, w_FnExactIsDepthProof_j1]
  rw [toGraph_eq (by omega) (by omega) (by omega), hB.to]
  simp only [Option.bind_some]
  rw [eqGraph_eq (by omega) (by unfold Sm; omega) (by omega), hB.eq]
  rfl

end Go.Zq
