/- Plain mathematics: what the functions answer (part 2). Conditions: stated in each theorem. -/
import Derived.Test.YtdhbhaaiohkpdaaM1
set_option linter.unusedVariables false
set_option linter.unusedSimpArgs false
/- Plain mathematics: steps of a search. -/
namespace Go.Zq

/-- the nodes that become unsafe: connected, without searchers, with one that was -/
def spr (g : Gr) (f u : Nat → Bool) (j : Nat) : Bool := anyN (fun y => u y && f y && comp g f y j) g.1.toNat

/-- the node of a step -/
def stNode (step : Int) : Int := if step < 0 then -1 - step else step
/-- whether a step is possible -/
def canB (n : Nat) (p : Nat → Bool) (step : Int) : Bool := decide (stNode step < n) && (p (stNode step).toNat == decide (step < 0))
def newP (p : Nat → Bool) (step : Int) (j : Nat) : Bool := if step < 0 then p j && !(j == (stNode step).toNat) else p j || j == (stNode step).toNat

theorem stNode_nn {step : Int} : 0 ≤ stNode step := by unfold stNode; split <;> omega
theorem stNode_w {step : Int} (h : (Lit.int .i64 step).wf = true) : (if step < 0 then w64 (-1 - step) else step) = stNode step := by
  have := okI_iff.1 h
  unfold stNode
  split
  · exact w64_id (by omega) (by omega)
  · rfl

end Go.Zq
/- Plain mathematics: steps of a search, in the reference; programs. -/
namespace Go.Zq

theorem without_eq {F n : Nat} {p : Nat → Bool} {x : Int} (hn : n ≤ 8) (hF : 20 ≤ F) : s_l2Without F (listN p n) x = some (listN (fun j => p j && !((j : Int) == x)) n) := by
  have hc := cnt_le (p := p) (n := n)
  have hl8 : (listN p n).length ≤ 8 := by rw [listN_len]; omega
  have hfin : (listN p n).filter (fun y => y != x) = listN (fun j => p j && !((j : Int) == x)) n := by
    refine srt_listN (List.Pairwise.filter _ listN_srt) fun y => ?_
    rw [List.mem_filter, listN_mem]
    constructor
    · rintro ⟨⟨j, rfl, h1, h2⟩, h3⟩; exact ⟨j, rfl, h1, by rw [h2]; simpa using h3⟩
    · rintro ⟨j, rfl, h1, h2⟩
      simp only [Bool.and_eq_true] at h2
      exact ⟨⟨j, rfl, h1, h2.1⟩, by simpa using h2.2⟩
  unfold s_l2Without
  refine loop_inv (L := fun k i s => s_l2Without_l1 F (listN p n) x k s i) (n := (listN p n).length) (fun i s => s = ((listN p n).take i).filter fun y => y != x) ?_ ?_ F _ (by omega) rfl
  · intro k i s hi hI
    subst hI
    refine ⟨_, rfl, ?_⟩
    have hfl : (((listN p n).take i).filter fun y => y != x).length ≤ 8 := Nat.le_trans (List.length_filter_le _ _) (by simp; omega)
    simp only [s_l2Without_l1, s_l2Without_j1]
    rw [decide_eq_true (show (i : Int) < ((listN p n).length : Int) by omega), cond_true, idx_getD (d := 0) hi, Option.bind_some, w64_succ hi (by unfold Sm; omega)]
    have htk : ((listN p n).take (i + 1)).filter (fun y => y != x) = ((listN p n).take i).filter (fun y => y != x) ++ (if ((listN p n).getD i 0 != x) = true then [(listN p n).getD i 0] else []) := by
      rw [List.take_add_one, List.getElem?_eq_getElem hi, List.filter_append]
      have e : (listN p n).getD i 0 = (listN p n)[i] := by rw [List.getD_eq_getElem?_getD, List.getElem?_eq_getElem hi]; rfl
      rw [e]
      cases h : ((listN p n)[i] != x) <;> simp [h]
    rw [htk]
    cases h : ((listN p n).getD i 0 != x) with
    | true => rw [cond_true, Option.bind_some, appL_one (by omega), Option.bind_some]; rfl
    | false => rw [cond_false]; simp
  · intro k s hI
    subst hI
    simp only [s_l2Without_l1]
    rw [decide_eq_false (show ¬ ((listN p n).length : Int) < ((listN p n).length : Int) by omega), cond_false, List.take_length, hfin]

theorem spread_eq {F : Nat} {g : Gr} {p u : Nat → Bool} (hg : good g = true) (hF : 60 ≤ F) (hG : g.2.length < F) (hs : Sm g.2.length) :
    s_l6Spread F g (listN p g.1.toNat) (listN u g.1.toNat) = some (listN (spr g (fun j => !p j) u) g.1.toNat) := by
  have h8 := good_size hg
  obtain ⟨n, hn⟩ : ∃ n : Nat, g.1.toNat = n := ⟨_, rfl⟩
  have hn8 : n ≤ 8 := by omega
  have hgn : g.1 = (n : Int) := by omega
  rw [hn]
  unfold s_l6Spread
  have hul : (listN u n).length ≤ 8 := by rw [listN_len]; exact Nat.le_trans cnt_le hn8
  refine loop_inv (L := fun k i s => s_l6Spread_l3 F (listN p n) (listN u n) g k s i) (n := n) (fun i s => s = listN (fun j => !p j) i) ?_ ?_ F _ (by omega) rfl
  · intro k i s hi hI
    subst hI
    refine ⟨_, rfl, ?_⟩
    have hc := cnt_le (p := fun j => !p j) (n := i)
    simp only [s_l6Spread_l3, s_l6Spread_j1]
    rw [hgn, decide_eq_true (show (i : Int) < (n : Int) by omega), cond_true, has_listN hn8 hi (by omega), Option.bind_some, listN_succ, w64_succ hi (by unfold Sm; omega)]
    cases p i with
    | true => rw [Bool.not_true, cond_false]; simp
    | false => rw [Bool.not_false, cond_true, appL_one (by rw [listN_len]; omega), Option.bind_some]; rfl
  · intro k s hI
    subst hI
    simp only [s_l6Spread_l3]
    rw [hgn, decide_eq_false (show ¬ (n : Int) < (n : Int) by omega), cond_false]
    let A : Nat → Nat → Bool := fun i j => anyN (fun t => !p ((listN u n).getD t 0).toNat && comp g (fun j => !p j) ((listN u n).getD t 0).toNat j) i
    have hfin : ∀ j, j < n → A (listN u n).length j = spr g (fun j => !p j) u j := by
      intro j _
      show anyN _ _ = _
      unfold spr
      rw [Bool.eq_iff_iff, anyN_iff, anyN_iff, hn]
      constructor
      · rintro ⟨t, ht, h⟩
        obtain ⟨y, hy, hyn, hyu⟩ := listN_get ht
        rw [hy, Int.toNat_natCast] at h
        exact ⟨y, hyn, by rw [hyu, Bool.true_and]; exact h⟩
      · rintro ⟨y, hy, h⟩
        simp only [Bool.and_eq_true] at h
        have hm : (y : Int) ∈ listN u n := listN_mem.2 ⟨y, rfl, hy, h.1.1⟩
        obtain ⟨t, ht, e⟩ := List.mem_iff_getElem.1 hm
        refine ⟨t, ht, ?_⟩
        rw [List.getD_eq_getElem?_getD, List.getElem?_eq_getElem ht, Option.getD_some, e, Int.toNat_natCast, h.1.2, h.2]; rfl
    refine loop_inv (L := fun k i s => s_l6Spread_l2 F (listN p n) (listN u n) g (listN (fun j => !p j) n) k s i) (n := (listN u n).length) (fun i s => s = listN (A i) n) ?_ ?_ F _ (by omega) ?_
    · intro k i s hi hI
      subst hI
      refine ⟨_, rfl, ?_⟩
      obtain ⟨y, hy, hyn, hyu⟩ := listN_get hi
      have hAs : ∀ j, A (i + 1) j = (A i j || (!p y && comp g (fun j => !p j) y j)) := by
        intro j
        show (A i j || (!p ((listN u n).getD i 0).toNat && comp g (fun j => !p j) ((listN u n).getD i 0).toNat j)) = _
        rw [hy, Int.toNat_natCast]
      have hwi : w64 ((i : Int) + 1) = ((i + 1 : Nat) : Int) := w64_succ hi (by unfold Sm; omega)
      simp only [s_l6Spread_l2]
      rw [decide_eq_true (show (i : Int) < ((listN u n).length : Int) by omega), cond_true, idx_getD (d := 0) hi, Option.bind_some, hy, has_listN hn8 hyn (by omega), Option.bind_some]
      cases hp : p y with
      | true =>
        rw [cond_true, hwi, listN_congr (p := A (i + 1)) (q := A i) (fun j _ => by rw [hAs j, hp]; simp)]
      | false =>
        have hr := reach_eq (F := F) (x := y) (p := fun j => !p j) hg (by omega) (by rw [hp]; rfl) (by omega) hG hs
        rw [hn] at hr
        rw [cond_false, Option.bind_some, hr, Option.bind_some]
        have hcl8 : (listN (comp g (fun j => !p j) y) n).length ≤ 8 := by rw [listN_len]; exact Nat.le_trans cnt_le hn8
        refine loop_inv (L := fun k2 t s => s_l6Spread_l1 F (listN p n) (listN u n) g (listN (fun j => !p j) n) (i : Int) (listN (comp g (fun j => !p j) y) n) (s_l6Spread_l2 F (listN p n) (listN u n) g (listN (fun j => !p j) n) k) k2 s t) (n := (listN (comp g (fun j => !p j) y) n).length)
          (fun t s => s = listN (fun j => A i j || decide ((j : Int) ∈ (listN (comp g (fun j => !p j) y) n).take t)) n) ?_ ?_ F _ (by omega) ?_
        · intro k2 t s ht hI
          subst hI
          refine ⟨_, rfl, ?_⟩
          obtain ⟨z, hz, hzn, _⟩ := listN_get ht
          simp only [s_l6Spread_l1]
          rw [decide_eq_true (show (t : Int) < ((listN (comp g (fun j => !p j) y) n).length : Int) by omega), cond_true, idx_getD (d := 0) ht, Option.bind_some, hz, put_eq hn8 hzn (by omega), Option.bind_some, w64_succ ht (by unfold Sm; omega)]
          congr 1
          apply listN_congr
          intro j _
          have hp2 := pre_succ (x := z) ht hz j
          unfold preP at hp2
          rw [hp2, Bool.or_assoc]
        · intro k2 s hI
          subst hI
          simp only [s_l6Spread_l1]
          rw [decide_eq_false (show ¬ ((listN (comp g (fun j => !p j) y) n).length : Int) < ((listN (comp g (fun j => !p j) y) n).length : Int) by omega), cond_false, hwi]
          congr 1
          apply listN_congr
          intro j hj
          rw [List.take_length, hAs j, hp, Bool.not_false, Bool.true_and]
          congr 1
          rw [Bool.eq_iff_iff, decide_eq_true_eq, listN_mem]
          constructor
          · rintro ⟨j', e, _, h⟩
            obtain rfl : j = j' := by omega
            exact h
          · exact fun h => ⟨j, rfl, hj, h⟩
        · apply listN_congr; intro j _; simp
    · intro k s hI
      subst hI
      simp only [s_l6Spread_l2]
      rw [decide_eq_false (show ¬ ((listN u n).length : Int) < ((listN u n).length : Int) by omega), cond_false, listN_congr hfin]
    · rw [listN_congr (p := A 0) (q := fun _ => false) (fun j _ => rfl)]
      simp [listN]

theorem has_any {F n : Nat} {p : Nat → Bool} {y : Int} (hn : n ≤ 8) (hF : 20 ≤ F) (h0 : 0 ≤ y) (hy : y < n) : s_l1Has F (listN p n) y = some (p y.toNat) := by
  obtain ⟨x, rfl⟩ : ∃ x : Nat, y = x := ⟨y.toNat, by omega⟩
  rw [has_listN hn (by omega) hF, Int.toNat_natCast]

theorem sCan_eq {F : Nat} {g : Gr} {p u : Nat → Bool} {step : Int} (hg : good g = true) (hst : (Lit.int .i64 step).wf = true) (hF : 40 ≤ F) :
    s_l6Can F g (listN p g.1.toNat, listN u g.1.toNat) step = some (canB g.1.toNat p step) := by
  have h8 := good_size hg
  have hr := okI_iff.1 hst
  have hgn : g.1 = (g.1.toNat : Int) := by omega
  unfold s_l6Can s_l2Node canB
  by_cases h : step < 0
  · have hw : w64 (-1 - step) = stNode step := by have := stNode_w hst; rwa [if_pos h] at this
    have hx : stNode step = -1 - step := by unfold stNode; rw [if_pos h]
    have hw0 : w64 (0 - g.1) = -g.1 := by rw [w64_id (by omega) (by omega)]; omega
    rw [decide_eq_false (show ¬ step ≥ 0 by omega), cond_false, hw0, decide_eq_true h]
    by_cases hn : step ≥ -g.1
    · rw [decide_eq_true hn, cond_true, hw, has_any (by omega) (by omega) (by omega) (by omega), Option.bind_some, decide_eq_true (show stNode step < (g.1.toNat : Int) by omega), Bool.true_and]
      cases p (stNode step).toNat <;> rfl
    · rw [decide_eq_false hn, cond_false, decide_eq_false (show ¬ stNode step < (g.1.toNat : Int) by omega)]; rfl
  · have hx : stNode step = step := by unfold stNode; rw [if_neg h]
    have hw1 : w64 (g.1 - 1) = g.1 - 1 := w64_id (by omega) (by omega)
    rw [decide_eq_true (show step ≥ 0 by omega), cond_true, hw1, l1In_eq, Option.bind_some, Option.bind_some, decide_eq_true (show (0 : Int) ≤ step by omega), Bool.true_and, decide_eq_false h, hx]
    by_cases hn : step ≤ g.1 - 1
    · rw [decide_eq_true hn, cond_true, has_any (by omega) (by omega) (by omega) (by omega), Option.bind_some, decide_eq_true (show step < (g.1.toNat : Int) by omega), Bool.true_and]
      cases p step.toNat <;> rfl
    · rw [decide_eq_false hn, cond_false, decide_eq_false (show ¬ step < (g.1.toNat : Int) by omega)]; rfl

theorem sStep_eq {F : Nat} {g : Gr} {p u : Nat → Bool} {step : Int} (hg : good g = true) (hst : (Lit.int .i64 step).wf = true) (hc : canB g.1.toNat p step = true) (hF : 60 ≤ F) (hG : g.2.length < F) (hs : Sm g.2.length) :
    s_l6Step F g (listN p g.1.toNat, listN u g.1.toNat) step = some (listN (newP p step) g.1.toNat, listN (spr g (fun j => !newP p step j) u) g.1.toNat) := by
  have h8 := good_size hg
  have hr := okI_iff.1 hst
  unfold canB at hc
  simp only [Bool.and_eq_true, decide_eq_true_eq] at hc
  have hx0 := stNode_nn (step := step)
  unfold s_l6Step s_l6Step_j1
  simp only
  rw [without_eq (by omega) (by omega), Option.bind_some]
  by_cases h : step < 0
  · have hw : w64 (-1 - step) = stNode step := by have := stNode_w hst; rwa [if_pos h] at this
    rw [decide_eq_false (show ¬ step ≥ 0 by omega), cond_false, hw]
    have e : listN (fun j => p j && !((j : Int) == stNode step)) g.1.toNat = listN (newP p step) g.1.toNat := by
      apply listN_congr
      intro j _
      unfold newP
      rw [if_pos h]
      congr 2
      rw [Bool.eq_iff_iff]; simp; omega
    rw [e, spread_eq hg hF hG hs, Option.bind_some]
  · have hx : stNode step = step := by unfold stNode; rw [if_neg h]
    obtain ⟨x, hx2⟩ : ∃ x : Nat, step = x := ⟨step.toNat, by omega⟩
    rw [decide_eq_true (show step ≥ 0 by omega), cond_true]
    have hput := put_eq (F := F) (n := g.1.toNat) (x := x) (p := p) (by omega) (by omega) (by omega)
    rw [← hx2] at hput
    rw [hput, Option.bind_some]
    have e : listN (fun j => p j || j == x) g.1.toNat = listN (newP p step) g.1.toNat := by
      apply listN_congr
      intro j _
      unfold newP
      rw [if_neg h, hx, hx2, Int.toNat_natCast]
    rw [e, spread_eq hg hF hG hs, Option.bind_some]

theorem all_eq {F : Nat} {g : Gr} (hg : good g = true) (hF : 20 ≤ F) : s_l2All F g = some (listN (fun j => decide (j < g.1.toNat)) g.1.toNat) := by
  have h8 := good_size hg
  have hgn : (g.1.toNat : Int) = g.1 := by omega
  have hpow := Nat.two_pow_pos g.1.toNat
  have hpl := pow_lt (j := g.1.toNat) (by omega)
  unfold s_l2All
  have hsh := one_shl (j := g.1.toNat) (by omega)
  rw [hgn] at hsh
  rw [hsh, Option.bind_some]
  have hw : w64 (((2 ^ g.1.toNat : Nat) : Int) - 1) = ((2 ^ g.1.toNat - 1 : Nat) : Int) := by rw [w64_id (by omega) (by omega)]; omega
  have hb := bits_eq (F := F) (n := g.1.toNat) (code := 2 ^ g.1.toNat - 1) (by omega) (by omega) (by omega)
  rw [hgn] at hb
  rw [hw, hb, Option.bind_some]
  congr 1
  apply listN_congr
  intro j _
  rw [Nat.testBit_two_pow_sub_one]

end Go.Zq
/- Plain mathematics: programs that clear, and chains. -/
namespace Go.Zq

/-- the next state, by the numbers of the sets -/
def nxS (g : Gr) (s : Nat × Nat) (step : Int) : Nat × Nat := (mkm (newP s.1.testBit step) g.1.toNat, mkm (spr g (fun j => !newP s.1.testBit step j) s.2.testBit) g.1.toNat)
/-- whether a step is possible with k searchers -/
def cnS (g : Gr) (k : Int) (s : Nat × Nat) (step : Int) : Bool := canB g.1.toNat s.1.testBit step && !(decide (step ≥ 0) && ((pcN g.1.toNat s.1 : Int) == k))

inductive Rch (g : Gr) (k : Int) : Nat × Nat → Prop
  | init : Rch g k (0, 2 ^ g.1.toNat - 1)
  | step {s : Nat × Nat} {step : Int} : Rch g k s → cnS g k s step = true → Rch g k (nxS g s step)

structure Gst (g : Gr) (k : Int) (s : Nat × Nat) : Prop where
  lt1 : s.1 < 2 ^ g.1.toNat
  lt2 : s.2 < 2 ^ g.1.toNat
  dis : ∀ j, s.1.testBit j = true → s.2.testBit j = false
  cl : ∀ a b, adj g a b = true → s.2.testBit a = true → s.1.testBit b = false → s.2.testBit b = true
  sz : (pcN g.1.toNat s.1 : Int) ≤ k

theorem cnt_add1 {p : Nat → Bool} {x : Nat} (hx : p x = false) : ∀ {n : Nat}, x < n → cntN (fun j => p j || j == x) n = cntN p n + 1
  | 0, h => by omega
  | n + 1, h => by
    unfold cntN
    rw [List.range_succ, List.countP_append, List.countP_append]
    by_cases e : x = n
    · subst e
      have : (List.range x).countP (fun j => p j || j == x) = (List.range x).countP p := by
        apply List.countP_congr
        intro j hj
        rw [List.mem_range] at hj
        have : (j == x) = false := by simp; omega
        rw [this, Bool.or_false]
      rw [this]
      simp [hx]
    · have := cnt_add1 hx (n := n) (by omega)
      unfold cntN at this
      rw [this]
      have e2 : (n == x) = false := by simp; omega
      simp [e2]
      omega

theorem lt_bit {n a j : Nat} (ha : a < 2 ^ n) (hj : a.testBit j = true) : j < n := by
  refine Classical.byContradiction fun h => ?_
  rw [Nat.testBit_lt_two_pow (Nat.lt_of_lt_of_le ha (Nat.pow_le_pow_right (by decide) (by omega)))] at hj
  cases hj

theorem newP_place {p : Nat → Bool} {step : Int} (h : 0 ≤ step) (j : Nat) : newP p step j = (p j || j == step.toNat) := by
  unfold newP stNode
  rw [if_neg (by omega), if_neg (by omega)]
theorem newP_rem {p : Nat → Bool} {step : Int} (h : step < 0) {j : Nat} (hj : newP p step j = true) : p j = true := by
  unfold newP at hj
  rw [if_pos h, Bool.and_eq_true] at hj
  exact hj.1

theorem canB_place {n : Nat} {p : Nat → Bool} {step : Int} (h : 0 ≤ step) (hc : canB n p step = true) : step.toNat < n ∧ p step.toNat = false := by
  unfold canB stNode at hc
  rw [if_neg (by omega), Bool.and_eq_true, decide_eq_true_eq, decide_eq_false (by omega), beq_iff_eq] at hc
  exact ⟨by omega, hc.2⟩

theorem gst_init {g : Gr} (hg : good g = true) {k : Int} (hk : 0 ≤ k) : Gst g k (0, 2 ^ g.1.toNat - 1) := by
  have := Nat.two_pow_pos g.1.toNat
  refine ⟨by omega, by show 2 ^ g.1.toNat - 1 < _; omega, fun j hj => ?_, fun a b h _ _ => ?_, ?_⟩
  · rw [Nat.zero_testBit] at hj; cases hj
  · show (2 ^ g.1.toNat - 1).testBit b = true
    rw [Nat.testBit_two_pow_sub_one]
    have := adj_lt hg h
    exact decide_eq_true (by omega)
  · show ((cntN (Nat.testBit 0) g.1.toNat : Nat) : Int) ≤ k
    have : cntN (Nat.testBit 0) g.1.toNat = 0 := by
      unfold cntN
      rw [List.countP_eq_zero]
      intro j _
      rw [Nat.zero_testBit]; simp
    rw [this]; exact hk

theorem gst_step {g : Gr} (hg : good g = true) {k : Int} {s : Nat × Nat} {step : Int} (hs : Gst g k s) (hc : cnS g k s step = true) : Gst g k (nxS g s step) := by
  unfold cnS at hc
  rw [Bool.and_eq_true] at hc
  obtain ⟨hc, hk⟩ := hc
  refine ⟨mkm_lt, mkm_lt, fun j hj => ?_, fun a b hab ha hb => ?_, ?_⟩
  · show (mkm (spr g (fun j => !newP s.1.testBit step j) s.2.testBit) g.1.toNat).testBit j = false
    have h1 : (mkm (newP s.1.testBit step) g.1.toNat).testBit j = true := hj
    rw [mkm_bit, Bool.and_eq_true] at h1
    rw [mkm_bit]
    cases e : spr g (fun j => !newP s.1.testBit step j) s.2.testBit j with
    | false => rw [Bool.and_false]
    | true =>
      unfold spr at e
      obtain ⟨y, hy, h⟩ := anyN_iff.1 e
      simp only [Bool.and_eq_true] at h
      have := comp_in (p := fun j => !newP s.1.testBit step j) h.1.2 h.2
      simp only [h1.2] at this
      cases this
  · show (mkm (spr g (fun j => !newP s.1.testBit step j) s.2.testBit) g.1.toNat).testBit b = true
    have h1 : (mkm (spr g (fun j => !newP s.1.testBit step j) s.2.testBit) g.1.toNat).testBit a = true := ha
    have h2 : (mkm (newP s.1.testBit step) g.1.toNat).testBit b = false := hb
    have hl := adj_lt hg hab
    have hbn : b < g.1.toNat := by omega
    rw [mkm_bit, decide_eq_true hbn, Bool.true_and] at h2 ⊢
    rw [mkm_bit, Bool.and_eq_true] at h1
    obtain ⟨_, e⟩ := h1
    unfold spr at e ⊢
    obtain ⟨y, hy, h⟩ := anyN_iff.1 e
    refine anyN_iff.2 ⟨y, hy, ?_⟩
    simp only [Bool.and_eq_true] at h ⊢
    refine ⟨h.1, comp_closed hg hy h.1.2 h.2 ?_ hab⟩
    simp only [h2]; rfl
  · show ((cntN (mkm (newP s.1.testBit step) g.1.toNat).testBit g.1.toNat : Nat) : Int) ≤ k
    have e1 : cntN (mkm (newP s.1.testBit step) g.1.toNat).testBit g.1.toNat = cntN (newP s.1.testBit step) g.1.toNat := cnt_congr fun j hj => by rw [mkm_bit, decide_eq_true hj, Bool.true_and]
    rw [e1]
    have hsz := hs.sz
    unfold pcN at hsz hk
    by_cases h : step < 0
    · have := cnt_mono (p := newP s.1.testBit step) (q := s.1.testBit) (n := g.1.toNat) fun j _ hj => newP_rem h hj
      omega
    · obtain ⟨h1, h2⟩ := canB_place (by omega) hc
      have e2 : cntN (newP s.1.testBit step) g.1.toNat = cntN s.1.testBit g.1.toNat + 1 := by
        rw [← cnt_add1 h2 h1]
        exact cnt_congr fun j _ => newP_place (by omega) j
      rw [decide_eq_true (show step ≥ 0 by omega), Bool.true_and, Bool.not_eq_true', beq_eq_false_iff_ne] at hk
      omega

theorem rch_gst {g : Gr} (hg : good g = true) {k : Int} (hk : 0 ≤ k) {s : Nat × Nat} (h : Rch g k s) : Gst g k s := by
  induction h with
  | init => exact gst_init hg hk
  | step _ hc ih => exact gst_step hg ih hc

end Go.Zq
/- Plain mathematics: k searchers clear exactly if there is a chain with fronts below k. -/
namespace Go.Zq

/-- how many nodes are in the front -/
def frN (g : Gr) (a : Nat) : Nat := cntN (frt g a.testBit) g.1.toNat
/-- the other nodes -/
def cmM (n a : Nat) : Nat := mkm (fun j => !a.testBit j) n
theorem cmM_bit {n a j : Nat} (hj : j < n) : (cmM n a).testBit j = !a.testBit j := by unfold cmM; rw [mkm_bit, decide_eq_true hj, Bool.true_and]
theorem cmM_lt {n a j : Nat} (h : (cmM n a).testBit j = true) : j < n := by
  unfold cmM at h; rw [mkm_bit, Bool.and_eq_true, decide_eq_true_eq] at h; exact h.1

theorem frt_iff {g : Gr} (hg : good g = true) {p : Nat → Bool} {j : Nat} : frt g p j = true ↔ p j = true ∧ ∃ y, adj g j y = true ∧ p y = false := by
  unfold frt
  rw [Bool.and_eq_true, anyN_iff]
  constructor
  · rintro ⟨h1, y, hy, h2⟩
    rw [Bool.and_eq_true, Bool.not_eq_true'] at h2
    exact ⟨h1, y, h2⟩
  · rintro ⟨h1, y, h2, h3⟩
    have := adj_lt hg h2
    exact ⟨h1, y, by omega, by rw [h2, h3]; rfl⟩

def b2n (b : Bool) : Nat := if b then 1 else 0
theorem cnt_add {p q u v : Nat → Bool} : ∀ {n : Nat}, (∀ j, j < n → b2n (p j) + b2n (q j) ≤ b2n (u j) + b2n (v j)) → cntN p n + cntN q n ≤ cntN u n + cntN v n
  | 0, _ => by simp [cntN]
  | n + 1, h => by
    have ih := cnt_add (n := n) fun j hj => h j (by omega)
    have e : ∀ r : Nat → Bool, cntN r (n + 1) = cntN r n + b2n (r n) := by
      intro r
      unfold cntN b2n
      rw [List.range_succ, List.countP_append]
      simp [List.countP_cons]
    have := h n (by omega)
    rw [e, e, e, e]
    omega

theorem frN_sub {g : Gr} (hg : good g = true) (a b : Nat) : frN g (a &&& b) + frN g (a ||| b) ≤ frN g a + frN g b := by
  unfold frN
  refine cnt_add fun j _ => ?_
  have e1 : ∀ r : Nat, frt g r.testBit j = true ↔ r.testBit j = true ∧ ∃ y, adj g j y = true ∧ r.testBit y = false := fun r => frt_iff hg
  have h1 : ∀ x : Bool, b2n x ≤ 1 := by intro x; cases x <;> decide
  have hand : frt g (a &&& b).testBit j = true → a.testBit j = true ∧ b.testBit j = true ∧ (frt g a.testBit j = true ∨ frt g b.testBit j = true) := by
    intro h
    obtain ⟨h2, y, h3, h4⟩ := (e1 _).1 h
    rw [and_bitM, Bool.and_eq_true] at h2
    rw [and_bitM] at h4
    refine ⟨h2.1, h2.2, ?_⟩
    cases e : a.testBit y with
    | false => exact .inl ((e1 a).2 ⟨h2.1, y, h3, e⟩)
    | true =>
      rw [e, Bool.true_and] at h4
      exact .inr ((e1 b).2 ⟨h2.2, y, h3, h4⟩)
  have hor : frt g (a ||| b).testBit j = true → (a.testBit j = true → frt g a.testBit j = true) ∧ (b.testBit j = true → frt g b.testBit j = true) ∧ (a.testBit j = true ∨ b.testBit j = true) := by
    intro h
    obtain ⟨h2, y, h3, h4⟩ := (e1 _).1 h
    rw [or_bitM, Bool.or_eq_true] at h2
    rw [or_bitM, Bool.or_eq_false_iff] at h4
    exact ⟨fun h5 => (e1 a).2 ⟨h5, y, h3, h4.1⟩, fun h5 => (e1 b).2 ⟨h5, y, h3, h4.2⟩, h2⟩
  cases h2 : frt g (a &&& b).testBit j with
  | true =>
    obtain ⟨h3, h4, h5⟩ := hand h2
    cases h6 : frt g (a ||| b).testBit j with
    | true =>
      obtain ⟨h7, h8, _⟩ := hor h6
      rw [h7 h3, h8 h4]; decide
    | false =>
      rcases h5 with h | h
      · rw [h]; show 1 + 0 ≤ 1 + _; omega
      · rw [h]; show 1 + 0 ≤ _ + 1; omega
  | false =>
    cases h6 : frt g (a ||| b).testBit j with
    | true =>
      obtain ⟨h7, h8, h9⟩ := hor h6
      rcases h9 with h | h
      · rw [h7 h]; show 0 + 1 ≤ 1 + _; omega
      · rw [h8 h]; show 0 + 1 ≤ _ + 1; omega
    | false => show 0 + 0 ≤ _; omega

/-- the front of the safe nodes is guarded -/
theorem front_le {g : Gr} (hg : good g = true) {k : Int} {s : Nat × Nat} (hs : Gst g k s) : frN g (cmM g.1.toNat s.2) ≤ pcN g.1.toNat s.1 := by
  unfold frN pcN
  refine cnt_mono fun j hj h => ?_
  obtain ⟨h1, y, h2, h3⟩ := (frt_iff hg).1 h
  have hl := adj_lt hg h2
  rw [cmM_bit hj, Bool.not_eq_true'] at h1
  rw [cmM_bit (by omega), Bool.not_eq_false'] at h3
  cases e : s.1.testBit j with
  | true => rfl
  | false =>
    have := hs.cl y j (by rw [adj_comm]; exact h2) h3 e
    rw [h1] at this; cases this

theorem rch_crus {g : Gr} (hg : good g = true) {w : Nat} {s : Nat × Nat} (h : Rch g ((w : Int) + 1) s) :
    ∃ (m : Nat) (c : Nat → Nat), c 0 = 0 ∧ (∀ i, i ≤ m → c i < 2 ^ g.1.toNat) ∧ (∀ i, i < m → Sb1 (c i) (c (i + 1))) ∧ (∀ i, i ≤ m → frN g (c i) ≤ w) ∧ Sb1 (c m) (cmM g.1.toNat s.2) := by
  induction h with
  | init =>
    refine ⟨0, fun _ => 0, rfl, fun _ _ => Nat.two_pow_pos _, fun _ h => absurd h (by omega), fun i _ => ?_, ⟨0, fun j hj => ?_⟩⟩
    · unfold frN
      have : cntN (frt g (Nat.testBit 0)) g.1.toNat = 0 := by
        unfold cntN
        rw [List.countP_eq_zero]
        intro j _ h
        have := ((frt_iff hg).1 h).1
        rw [Nat.zero_testBit] at this; cases this
      rw [this]; omega
    · have hl := cmM_lt hj
      rw [cmM_bit hl] at hj
      simp only [Nat.testBit_two_pow_sub_one, decide_eq_true hl] at hj
      cases hj
  | step hr hc ih =>
    rename_i s step
    have hs := rch_gst hg (by omega) hr
    obtain ⟨m, c, h0, h1, h2, h3, ⟨x, hx⟩⟩ := ih
    -- what is safe behind the step was safe before, or has been visited
    have hback : ∀ j, (cmM g.1.toNat (nxS g s step).2).testBit j = true → (cmM g.1.toNat s.2).testBit j = true ∨ (0 ≤ step ∧ j = step.toNat) := by
      intro j hj
      have hl := cmM_lt hj
      rw [cmM_bit hl] at hj ⊢
      cases e : s.2.testBit j with
      | false => exact .inl rfl
      | true =>
        right
        have hd : s.1.testBit j = false := by
          cases e2 : s.1.testBit j with
          | false => rfl
          | true => have := hs.dis j e2; rw [e] at this; cases this
        have hn : newP s.1.testBit step j = true := by
          cases e3 : newP s.1.testBit step j with
          | true => rfl
          | false =>
            exfalso
            have : (nxS g s step).2.testBit j = true := by
              show (mkm (spr g (fun j => !newP s.1.testBit step j) s.2.testBit) g.1.toNat).testBit j = true
              rw [mkm_bit, decide_eq_true hl, Bool.true_and]
              unfold spr
              refine anyN_iff.2 ⟨j, hl, ?_⟩
              simp only [e, e3, comp_self]; rfl
            rw [this] at hj; cases hj
        by_cases hst : step < 0
        · have := newP_rem hst hn; rw [hd] at this; cases this
        · rw [newP_place (by omega), hd, Bool.false_or, beq_iff_eq] at hn
          exact ⟨by omega, hn⟩
    by_cases hst : step < 0
    · refine ⟨m, c, h0, h1, h2, h3, ⟨x, fun j hj => ?_⟩⟩
      rcases hback j hj with h | ⟨h, _⟩
      · exact hx j h
      · omega
    · have hfr := front_le hg hs
      have hpc : pcN g.1.toNat s.1 ≤ w := by
        have h4 := hs.sz
        unfold cnS at hc
        rw [Bool.and_eq_true, decide_eq_true (show step ≥ 0 by omega), Bool.true_and, Bool.not_eq_true', beq_eq_false_iff_ne] at hc
        have := hc.2
        omega
      refine ⟨m + 1, fun i => if i ≤ m then c i else cmM g.1.toNat s.2, ?_, fun i hi => ?_, fun i hi => ?_, fun i hi => ?_, ⟨step.toNat, fun j hj => ?_⟩⟩
      · show (if 0 ≤ m then c 0 else _) = 0
        rw [if_pos (by omega)]; exact h0
      · show (if i ≤ m then c i else _) < _
        split
        · exact h1 i (by omega)
        · exact mkm_lt
      · show Sb1 (if i ≤ m then c i else _) (if i + 1 ≤ m then c (i + 1) else _)
        rw [if_pos (by omega)]
        by_cases e : i + 1 ≤ m
        · rw [if_pos e]; exact h2 i (by omega)
        · rw [if_neg e]
          obtain rfl : i = m := by omega
          exact ⟨x, hx⟩
      · show frN g (if i ≤ m then c i else _) ≤ w
        split
        · exact h3 i (by omega)
        · omega
      · show (if m + 1 ≤ m then c (m + 1) else cmM g.1.toNat s.2).testBit j = true ∨ _
        rw [if_neg (by omega)]
        rcases hback j hj with h | ⟨_, h⟩
        · exact .inl h
        · exact .inr h

/-- a program that clears comes to a chain -/
theorem clear_ch {g : Gr} (hg : good g = true) {w : Nat} {s : Nat × Nat} (h : Rch g ((w : Int) + 1) s) (h0 : s.2 = 0) : Ch g.1.toNat (frC g) (w : Int) 0 (2 ^ g.1.toNat - 1) := by
  have h8 := good_size hg
  obtain ⟨m, c, c0, c1, c2, c3, ⟨x, hx⟩⟩ := rch_crus hg h
  have hfull : cmM g.1.toNat s.2 = 2 ^ g.1.toNat - 1 := by
    apply Nat.eq_of_testBit_eq
    intro j
    unfold cmM
    rw [mkm_bit, Nat.testBit_two_pow_sub_one, h0, Nat.zero_testBit]; simp
  have hpos := Nat.two_pow_pos g.1.toNat
  refine crus_ch (f := frN g) (w := w) (m := m + 1) (c := fun i => if i ≤ m then c i else 2 ^ g.1.toNat - 1) (by omega) (fun a b _ _ => frN_sub hg a b) ⟨?_, ?_, fun i hi => ?_, fun i hi => ?_, fun i hi => ?_⟩
  · show (if 0 ≤ m then c 0 else _) = 0
    rw [if_pos (by omega)]; exact c0
  · show (if m + 1 ≤ m then c (m + 1) else _) = _
    rw [if_neg (by omega)]
  · show (if i ≤ m then c i else _) < _
    split
    · exact c1 i (by omega)
    · omega
  · show Sb1 (if i ≤ m then c i else _) (if i + 1 ≤ m then c (i + 1) else _)
    rw [if_pos (by omega)]
    by_cases e : i + 1 ≤ m
    · rw [if_pos e]; exact c2 i (by omega)
    · rw [if_neg e, ← hfull]
      obtain rfl : i = m := by omega
      exact ⟨x, hx⟩
  · show frN g (if i ≤ m then c i else _) ≤ w
    split
    · exact c3 i (by omega)
    · have : frN g (2 ^ g.1.toNat - 1) = 0 := by
        unfold frN cntN
        rw [List.countP_eq_zero]
        intro j _ h
        obtain ⟨_, y, h2, h3⟩ := (frt_iff hg).1 h
        have hl := adj_lt hg h2
        rw [Nat.testBit_two_pow_sub_one, decide_eq_false_iff_not] at h3
        omega
      omega

end Go.Zq
/- Plain mathematics: a chain comes to a program that clears. -/
namespace Go.Zq

def frM (g : Gr) (a : Nat) : Nat := mkm (frt g a.testBit) g.1.toNat

theorem frt_lt {g : Gr} (hg : good g = true) {p : Nat → Bool} {j : Nat} (h : frt g p j = true) : j < g.1.toNat := by
  obtain ⟨_, y, h2, _⟩ := (frt_iff hg).1 h
  have := adj_lt hg h2
  omega
theorem frM_bit {g : Gr} (hg : good g = true) {a j : Nat} : (frM g a).testBit j = frt g a.testBit j := by
  unfold frM
  rw [mkm_bit]
  cases e : frt g a.testBit j with
  | false => rw [Bool.and_false]
  | true => rw [decide_eq_true (frt_lt hg e)]; rfl

theorem spr_cm {g : Gr} (hg : good g = true) {S : Nat} {f u : Nat → Bool} (h1 : ∀ j, j < g.1.toNat → u j = true → f j = true → S.testBit j = false) (h2 : ∀ j, j < g.1.toNat → S.testBit j = false → u j = true ∧ f j = true) (h3 : ∀ j, frt g S.testBit j = true → f j = false) :
    mkm (spr g f u) g.1.toNat = cmM g.1.toNat S := by
  unfold cmM
  refine mkm_congr fun j hj => ?_
  rw [Bool.eq_iff_iff]
  constructor
  · intro h
    unfold spr at h
    obtain ⟨y, hy, h⟩ := anyN_iff.1 h
    simp only [Bool.and_eq_true] at h
    refine comp_min (C := fun j => !S.testBit j) ?_ ?_ h.2
    · show (!S.testBit y) = true
      rw [h1 y hy h.1.1 h.1.2]; rfl
    · intro a b ha hb hab
      have ha' : S.testBit a = false := by simpa using ha
      show (!S.testBit b) = true
      cases e : S.testBit b with
      | false => rfl
      | true =>
        have := h3 b ((frt_iff hg).2 ⟨e, a, by rw [adj_comm]; exact hab, ha'⟩)
        rw [hb] at this; cases this
  · intro h
    rw [Bool.not_eq_true'] at h
    obtain ⟨h4, h5⟩ := h2 j hj h
    unfold spr
    refine anyN_iff.2 ⟨j, hj, ?_⟩
    rw [h4, h5, comp_self]; rfl

theorem rch_remove {g : Gr} (hg : good g = true) {k : Int} {S : Nat} : ∀ (d Z : Nat), pcN g.1.toNat Z ≤ d → Z < 2 ^ g.1.toNat → (∀ j, frt g S.testBit j = true → Z.testBit j = true) → (∀ j, Z.testBit j = true → S.testBit j = true) →
    Rch g k (Z, cmM g.1.toNat S) → Rch g k (frM g S, cmM g.1.toNat S) := by
  intro d
  induction d with
  | zero =>
    intro Z hd hZ h1 h2 hr
    have : Z = frM g S := by
      apply Nat.eq_of_testBit_eq
      intro j
      rw [frM_bit hg, Bool.eq_iff_iff]
      refine ⟨fun h => ?_, h1 j⟩
      exfalso
      have hl := lt_bit hZ h
      have : 0 < pcN g.1.toNat Z := by
        unfold pcN cntN
        rw [List.countP_pos_iff]
        exact ⟨j, by simpa using hl, h⟩
      omega
    rwa [this] at hr
  | succ d ih =>
    intro Z hd hZ h1 h2 hr
    by_cases hex : ∃ y, Z.testBit y = true ∧ frt g S.testBit y = false
    · obtain ⟨y, hy, hf⟩ := hex
      have hl := lt_bit hZ hy
      have hst : stNode (-1 - (y : Int)) = y := by unfold stNode; rw [if_pos (by omega)]; omega
      have hc : cnS g k (Z, cmM g.1.toNat S) (-1 - (y : Int)) = true := by
        unfold cnS canB
        rw [hst, decide_eq_true (show (y : Int) < (g.1.toNat : Int) by omega), decide_eq_true (show -1 - (y : Int) < 0 by omega), decide_eq_false (show ¬ -1 - (y : Int) ≥ 0 by omega), Int.toNat_natCast]
        simp [hy]
      have hnew : ∀ j, newP Z.testBit (-1 - (y : Int)) j = (Z.testBit j && !(j == y)) := by
        intro j
        unfold newP
        rw [if_pos (by omega), hst, Int.toNat_natCast]
      have hstep := Rch.step hr hc
      have e2 : (nxS g (Z, cmM g.1.toNat S) (-1 - (y : Int))).2 = cmM g.1.toNat S := by
        refine spr_cm hg ?_ ?_ ?_
        · intro j hj hu _
          have hu' : (cmM g.1.toNat S).testBit j = true := hu
          rw [cmM_bit hj] at hu'
          simpa using hu'
        · intro j hj hS
          refine ⟨?_, ?_⟩
          · show (cmM g.1.toNat S).testBit j = true
            rw [cmM_bit hj, hS]; rfl
          · show (!newP Z.testBit (-1 - (y : Int)) j) = true
            rw [hnew]
            cases e : Z.testBit j with
            | false => rfl
            | true => have := h2 j e; rw [hS] at this; cases this
        · intro j hj
          show (!newP Z.testBit (-1 - (y : Int)) j) = false
          rw [hnew, h1 j hj]
          by_cases e : j = y
          · subst e; rw [hf] at hj; cases hj
          · have : (j == y) = false := by simpa using e
            rw [this]; rfl
      have e3 : nxS g (Z, cmM g.1.toNat S) (-1 - (y : Int)) = (mkm (newP Z.testBit (-1 - (y : Int))) g.1.toNat, cmM g.1.toNat S) := Prod.ext rfl e2
      rw [e3] at hstep
      have hb : ∀ j, (mkm (newP Z.testBit (-1 - (y : Int))) g.1.toNat).testBit j = (Z.testBit j && !(j == y)) := by
        intro j
        rw [mkm_bit, hnew]
        cases e : Z.testBit j with
        | false => simp
        | true => rw [decide_eq_true (lt_bit hZ e), Bool.true_and]
      refine ih _ ?_ mkm_lt ?_ ?_ hstep
      · have := pc_lt (n := g.1.toNat) (a := mkm (newP Z.testBit (-1 - (y : Int))) g.1.toNat) (b := Z) (x := y) (fun j hj => by rw [hb, Bool.and_eq_true] at hj; exact hj.1) hl (by rw [hb]; simp) hy
        omega
      · intro j hj
        rw [hb, h1 j hj]
        by_cases e : j = y
        · subst e; rw [hf] at hj; cases hj
        · have : (j == y) = false := by simpa using e
          rw [this]; rfl
      · intro j hj
        rw [hb, Bool.and_eq_true] at hj
        exact h2 j hj.1
    · have : Z = frM g S := by
        apply Nat.eq_of_testBit_eq
        intro j
        rw [frM_bit hg, Bool.eq_iff_iff]
        refine ⟨fun h => ?_, h1 j⟩
        cases e : frt g S.testBit j with
        | true => rfl
        | false => exact absurd ⟨j, h, e⟩ hex
      rwa [this] at hr

theorem rch_place {g : Gr} (hg : good g = true) {w a x : Nat} (hf : frN g a ≤ w) (hx : x < g.1.toNat) (ha : a.testBit x = false) (hr : Rch g ((w : Int) + 1) (frM g a, cmM g.1.toNat a)) :
    Rch g ((w : Int) + 1) (frM g a ||| 2 ^ x, cmM g.1.toNat (a ||| 2 ^ x)) := by
  have hfx : frt g a.testBit x = false := by
    cases e : frt g a.testBit x with
    | false => rfl
    | true => have := ((frt_iff hg).1 e).1; rw [ha] at this; cases this
  have hst : stNode (x : Int) = x := by unfold stNode; rw [if_neg (by omega)]
  have hpc : pcN g.1.toNat (frM g a) = frN g a := by
    unfold pcN frN
    exact cnt_congr fun j _ => frM_bit hg
  have hc : cnS g ((w : Int) + 1) (frM g a, cmM g.1.toNat a) (x : Int) = true := by
    unfold cnS canB
    rw [hst, decide_eq_true (show (x : Int) < (g.1.toNat : Int) by omega), decide_eq_false (show ¬ (x : Int) < 0 by omega), decide_eq_true (show (x : Int) ≥ 0 by omega), Int.toNat_natCast, hpc]
    have : (((frN g a : Nat) : Int) == (w : Int) + 1) = false := by simp; omega
    rw [this, frM_bit hg, hfx]; rfl
  have hnew : ∀ j, newP (frM g a).testBit (x : Int) j = (frt g a.testBit j || j == x) := by
    intro j
    rw [newP_place (by omega), frM_bit hg, Int.toNat_natCast]
  have hstep := Rch.step hr hc
  have e2 : (nxS g (frM g a, cmM g.1.toNat a) (x : Int)).2 = cmM g.1.toNat (a ||| 2 ^ x) := by
    have hS : ∀ j, (a ||| 2 ^ x).testBit j = (a.testBit j || j == x) := by
      intro j
      rw [or_bitM, Nat.testBit_two_pow]
      congr 1
      rw [Bool.eq_iff_iff]; simp; omega
    refine spr_cm hg ?_ ?_ ?_
    · intro j hj hu hff
      have hu' : (cmM g.1.toNat a).testBit j = true := hu
      have hff' : (!newP (frM g a).testBit (x : Int) j) = true := hff
      rw [cmM_bit hj, Bool.not_eq_true'] at hu'
      rw [hnew, Bool.not_eq_true', Bool.or_eq_false_iff] at hff'
      rw [hS, hu', hff'.2]; rfl
    · intro j hj hSj
      rw [hS, Bool.or_eq_false_iff] at hSj
      refine ⟨?_, ?_⟩
      · show (cmM g.1.toNat a).testBit j = true
        rw [cmM_bit hj, hSj.1]; rfl
      · show (!newP (frM g a).testBit (x : Int) j) = true
        rw [hnew, hSj.2, Bool.or_false]
        cases e : frt g a.testBit j with
        | false => rfl
        | true => have := ((frt_iff hg).1 e).1; rw [hSj.1] at this; cases this
    · intro j hj
      show (!newP (frM g a).testBit (x : Int) j) = false
      obtain ⟨h1, y, h2, h3⟩ := (frt_iff hg).1 hj
      rw [hS, Bool.or_eq_true] at h1
      rw [hS, Bool.or_eq_false_iff] at h3
      rw [hnew]
      rcases h1 with h1 | h1
      · rw [(frt_iff hg).2 ⟨h1, y, h2, h3.1⟩]; rfl
      · rw [h1, Bool.or_true]; rfl
  have e3 : nxS g (frM g a, cmM g.1.toNat a) (x : Int) = (frM g a ||| 2 ^ x, cmM g.1.toNat (a ||| 2 ^ x)) := by
    refine Prod.ext ?_ e2
    show mkm (newP (frM g a).testBit (x : Int)) g.1.toNat = frM g a ||| 2 ^ x
    apply Nat.eq_of_testBit_eq
    intro j
    rw [mkm_bit, hnew, or_bitM, frM_bit hg, Nat.testBit_two_pow]
    by_cases e : j = x
    · subst e; simp [hx]
    · have h1 : (j == x) = false := by simpa using e
      have h2 : decide (x = j) = false := by simp; omega
      rw [h1, h2, Bool.or_false]
      cases e2 : frt g a.testBit j with
      | false => simp
      | true => rw [decide_eq_true (frt_lt hg e2)]; rfl
  rwa [e3] at hstep

theorem ch_rch {g : Gr} (hg : good g = true) {w : Nat} {a b : Nat} (h : Ch g.1.toNat (frC g) (w : Int) a b) : a < 2 ^ g.1.toNat → frN g a ≤ w → Rch g ((w : Int) + 1) (frM g a, cmM g.1.toNat a) → Rch g ((w : Int) + 1) (frM g b, cmM g.1.toNat b) := by
  induction h with
  | refl m => exact fun _ _ h => h
  | step hx hb hc h4 ih =>
    rename_i m x m'
    intro hm hf hr
    have hlt := or_lt hm hx
    have hc' : frN g (m ||| 2 ^ x) ≤ w := by unfold frC at hc; unfold frN; omega
    refine ih hlt hc' ?_
    refine rch_remove hg _ (frM g m ||| 2 ^ x) (Nat.le_refl _) (Nat.or_lt_two_pow mkm_lt (Nat.pow_lt_pow_right (by decide) hx)) ?_ ?_ (rch_place hg hf hx hb hr)
    · intro j hj
      obtain ⟨h1, y, h2, h3⟩ := (frt_iff hg).1 hj
      rw [or_bitM, Bool.or_eq_true] at h1
      rw [or_bitM, Bool.or_eq_false_iff] at h3
      rw [or_bitM, frM_bit hg]
      rcases h1 with h1 | h1
      · rw [(frt_iff hg).2 ⟨h1, y, h2, h3.1⟩]; rfl
      · rw [h1, Bool.or_true]
    · intro j hj
      rw [or_bitM, Bool.or_eq_true, frM_bit hg] at hj
      rw [or_bitM]
      rcases hj with h | h
      · rw [((frt_iff hg).1 h).1]; rfl
      · rw [h, Bool.or_true]

theorem ch_clear {g : Gr} (hg : good g = true) {w : Nat} (h : Ch g.1.toNat (frC g) (w : Int) 0 (2 ^ g.1.toNat - 1)) : ∃ s, Rch g ((w : Int) + 1) s ∧ s.2 = 0 := by
  have hz : ∀ j, frt g (Nat.testBit 0) j = false := by
    intro j
    cases e : frt g (Nat.testBit 0) j with
    | false => rfl
    | true => have := ((frt_iff hg).1 e).1; rw [Nat.zero_testBit] at this; cases this
  have h0 : frM g 0 = 0 := by
    apply Nat.eq_of_testBit_eq
    intro j
    rw [frM_bit hg, Nat.zero_testBit]; exact hz j
  have h1 : cmM g.1.toNat 0 = 2 ^ g.1.toNat - 1 := by
    apply Nat.eq_of_testBit_eq
    intro j
    unfold cmM
    rw [mkm_bit, Nat.testBit_two_pow_sub_one, Nat.zero_testBit]; simp
  have h2 : frN g 0 = 0 := by
    unfold frN cntN
    rw [List.countP_eq_zero]
    intro j _ e
    rw [hz] at e; cases e
  have := ch_rch hg h (Nat.two_pow_pos _) (by omega) (by rw [h0, h1]; exact .init)
  refine ⟨_, this, ?_⟩
  show cmM g.1.toNat (2 ^ g.1.toNat - 1) = 0
  apply Nat.eq_of_testBit_eq
  intro j
  unfold cmM
  rw [mkm_bit, Nat.testBit_two_pow_sub_one, Nat.zero_testBit]
  by_cases e : j < g.1.toNat
  · simp [e]
  · simp [e]

/-- nobody clears without searchers -/
theorem rch_zero {g : Gr} {s : Nat × Nat} (h : Rch g 0 s) : s = (0, 2 ^ g.1.toNat - 1) := by
  induction h with
  | init => rfl
  | step hr hc ih =>
    rename_i s step
    exfalso
    subst ih
    unfold cnS canB at hc
    have h1 : pcN g.1.toNat 0 = 0 := by
      unfold pcN cntN
      rw [List.countP_eq_zero]
      intro j _ e
      rw [Nat.zero_testBit] at e; cases e
    by_cases h : step < 0
    · rw [decide_eq_true h, Nat.zero_testBit] at hc
      simp at hc
    · rw [decide_eq_true (show step ≥ 0 by omega), h1] at hc
      simp at hc

end Go.Zq
/- Plain mathematics: path decompositions. -/
namespace Go.Zq

structure Bg (F : Nat) (bags : List (List Int)) : Prop where
  len : bags.length ≤ 1048576
  each : ∀ x ∈ bags, x.length ≤ 1048576
  fuel : 1048577 ≤ F

theorem Bg.at {F : Nat} {bags : List (List Int)} (h : Bg F bags) {i : Nat} (hi : i < bags.length) : (bags.getD i []).length ≤ 1048576 := h.each _ (getD_mem hi)

theorem Bg.of {F : Nat} {bags : List (List Int)} (h : bags.length + sumL bags bags.length ≤ 1048576) (hF : 1048577 ≤ F) : Bg F bags := by
  refine ⟨by omega, fun x hx => ?_, hF⟩
  obtain ⟨i, hi, e⟩ := List.mem_iff_getElem.1 hx
  have := sumL_le hi
  rw [List.getD_eq_getElem?_getD, List.getElem?_eq_getElem hi, Option.getD_some, e] at this
  omega
end Go.Zq
/- Plain mathematics: sets of nodes as lists and as numbers; brambles. -/
namespace Go.Zq

end Go.Zq
/- Plain mathematics: own copies of arguments; lists that are marked. -/
namespace Go.Zq

end Go.Zq
/- Plain mathematics: fronts, as lists of one's own. -/
namespace Go.Zq

theorem listN_le {p : Nat → Bool} {n : Nat} : (listN p n).length ≤ n := by rw [listN_len]; exact cnt_le

end Go.Zq
/- Plain mathematics: lists of lists that are own, and their marks. -/
namespace Go.Zq

end Go.Zq
/- Plain mathematics: the cutwidth of a layout. -/
namespace Go.Zq

end Go.Zq
/- Plain mathematics: the sizes of the fronts of a layout. -/
namespace Go.Zq

end Go.Zq
/- Plain mathematics: treedepths of all sets. -/
namespace Go.Zq

end Go.Zq
/- Plain mathematics: cops that stay, and treedepth. -/
namespace Go.Zq

end Go.Zq
/- Plain mathematics: connected sets of a tree; decompositions. -/
namespace Go.Zq

end Go.Zq
/- Plain mathematics: the later neighbors of a node in an elimination. -/
namespace Go.Zq

end Go.Zq
/- Plain mathematics: parts, and what is connected. -/
namespace Go.Zq

end Go.Zq
