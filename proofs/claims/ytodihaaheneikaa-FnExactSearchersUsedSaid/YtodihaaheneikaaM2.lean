/- Plain mathematics: what the functions answer (part 2). Conditions: stated in each theorem. -/
import Derived.Test.YtodihaaheneikaaM1
set_option linter.unusedVariables false
set_option linter.unusedSimpArgs false
/- Plain mathematics: steps of a search, in the reference; programs. -/
namespace Go.Zq

theorem without_eq {F n : Nat} {p : Nat → Bool} {x : Int} (hn : n ≤ 8) (hF : 20 ≤ F) : s_l2Without F (listN p n) x = some (listN (fun j => p j && !((j : Int) == x)) n) := by
  have hc := cnt_le (p := p) (n := n)
  have hl8 : (listN p n).length ≤ 8 := by rw [listN_len]; omega
  have hfin : (listN p n).filter (fun y => y != x) = listN (fun j => p j && !((j : Int) == x)) n := by
    refine srt_listN (List.Pairwise.filter _ listN_srt) fun y => ?_
    rw [List.mem_filter, listN_mem]
    constructor
    · rintro ⟨⟨j, rfl, h1, h2⟩, h3⟩; exact ⟨j, rfl, h1, by rw [h2]; simpa using h3⟩
    · rintro ⟨j, rfl, h1, h2⟩
      simp only [Bool.and_eq_true] at h2
      exact ⟨⟨j, rfl, h1, h2.1⟩, by simpa using h2.2⟩
  unfold s_l2Without
  refine loop_inv (L := fun k i s => s_l2Without_l1 F (listN p n) x k s i) (n := (listN p n).length) (fun i s => s = ((listN p n).take i).filter fun y => y != x) ?_ ?_ F _ (by omega) rfl
  · intro k i s hi hI
    subst hI
    refine ⟨_, rfl, ?_⟩
    have hfl : (((listN p n).take i).filter fun y => y != x).length ≤ 8 := Nat.le_trans (List.length_filter_le _ _) (by simp; omega)
    simp only [s_l2Without_l1, s_l2Without_j1]
    rw [decide_eq_true (show (i : Int) < ((listN p n).length : Int) by omega), cond_true, idx_getD (d := 0) hi, Option.bind_some, w64_succ hi (by unfold Sm; omega)]
    have htk : ((listN p n).take (i + 1)).filter (fun y => y != x) = ((listN p n).take i).filter (fun y => y != x) ++ (if ((listN p n).getD i 0 != x) = true then [(listN p n).getD i 0] else []) := by
      rw [List.take_add_one, List.getElem?_eq_getElem hi, List.filter_append]
      have e : (listN p n).getD i 0 = (listN p n)[i] := by rw [List.getD_eq_getElem?_getD, List.getElem?_eq_getElem hi]; rfl
      rw [e]
      cases h : ((listN p n)[i] != x) <;> simp [h]
    rw [htk]
    cases h : ((listN p n).getD i 0 != x) with
    | true => rw [cond_true, Option.bind_some, appL_one (by omega), Option.bind_some]; rfl
    | false => rw [cond_false]; simp
  · intro k s hI
    subst hI
    simp only [s_l2Without_l1]
    rw [decide_eq_false (show ¬ ((listN p n).length : Int) < ((listN p n).length : Int) by omega), cond_false, List.take_length, hfin]

theorem spread_eq {F : Nat} {g : Gr} {p u : Nat → Bool} (hg : good g = true) (hF : 60 ≤ F) (hG : g.2.length < F) (hs : Sm g.2.length) :
    s_l6Spread F g (listN p g.1.toNat) (listN u g.1.toNat) = some (listN (spr g (fun j => !p j) u) g.1.toNat) := by
  have h8 := good_size hg
  obtain ⟨n, hn⟩ : ∃ n : Nat, g.1.toNat = n := ⟨_, rfl⟩
  have hn8 : n ≤ 8 := by omega
  have hgn : g.1 = (n : Int) := by omega
  rw [hn]
  unfold s_l6Spread
  have hul : (listN u n).length ≤ 8 := by rw [listN_len]; exact Nat.le_trans cnt_le hn8
  refine loop_inv (L := fun k i s => s_l6Spread_l3 F (listN p n) (listN u n) g k s i) (n := n) (fun i s => s = listN (fun j => !p j) i) ?_ ?_ F _ (by omega) rfl
  · intro k i s hi hI
    subst hI
    refine ⟨_, rfl, ?_⟩
    have hc := cnt_le (p := fun j => !p j) (n := i)
    simp only [s_l6Spread_l3, s_l6Spread_j1]
    rw [hgn, decide_eq_true (show (i : Int) < (n : Int) by omega), cond_true, has_listN hn8 hi (by omega), Option.bind_some, listN_succ, w64_succ hi (by unfold Sm; omega)]
    cases p i with
    | true => rw [Bool.not_true, cond_false]; simp
    | false => rw [Bool.not_false, cond_true, appL_one (by rw [listN_len]; omega), Option.bind_some]; rfl
  · intro k s hI
    subst hI
    simp only [s_l6Spread_l3]
    rw [hgn, decide_eq_false (show ¬ (n : Int) < (n : Int) by omega), cond_false]
    let A : Nat → Nat → Bool := fun i j => anyN (fun t => !p ((listN u n).getD t 0).toNat && comp g (fun j => !p j) ((listN u n).getD t 0).toNat j) i
    have hfin : ∀ j, j < n → A (listN u n).length j = spr g (fun j => !p j) u j := by
      intro j _
      show anyN _ _ = _
      unfold spr
      rw [Bool.eq_iff_iff, anyN_iff, anyN_iff, hn]
      constructor
      · rintro ⟨t, ht, h⟩
        obtain ⟨y, hy, hyn, hyu⟩ := listN_get ht
        rw [hy, Int.toNat_natCast] at h
        exact ⟨y, hyn, by rw [hyu, Bool.true_and]; exact h⟩
      · rintro ⟨y, hy, h⟩
        simp only [Bool.and_eq_true] at h
        have hm : (y : Int) ∈ listN u n := listN_mem.2 ⟨y, rfl, hy, h.1.1⟩
        obtain ⟨t, ht, e⟩ := List.mem_iff_getElem.1 hm
        refine ⟨t, ht, ?_⟩
        rw [List.getD_eq_getElem?_getD, List.getElem?_eq_getElem ht, Option.getD_some, e, Int.toNat_natCast, h.1.2, h.2]; rfl
    refine loop_inv (L := fun k i s => s_l6Spread_l2 F (listN p n) (listN u n) g (listN (fun j => !p j) n) k s i) (n := (listN u n).length) (fun i s => s = listN (A i) n) ?_ ?_ F _ (by omega) ?_
    · intro k i s hi hI
      subst hI
      refine ⟨_, rfl, ?_⟩
      obtain ⟨y, hy, hyn, hyu⟩ := listN_get hi
      have hAs : ∀ j, A (i + 1) j = (A i j || (!p y && comp g (fun j => !p j) y j)) := by
        intro j
        show (A i j || (!p ((listN u n).getD i 0).toNat && comp g (fun j => !p j) ((listN u n).getD i 0).toNat j)) = _
        rw [hy, Int.toNat_natCast]
      have hwi : w64 ((i : Int) + 1) = ((i + 1 : Nat) : Int) := w64_succ hi (by unfold Sm; omega)
      simp only [s_l6Spread_l2]
      rw [decide_eq_true (show (i : Int) < ((listN u n).length : Int) by omega), cond_true, idx_getD (d := 0) hi, Option.bind_some, hy, has_listN hn8 hyn (by omega), Option.bind_some]
      cases hp : p y with
      | true =>
        rw [cond_true, hwi, listN_congr (p := A (i + 1)) (q := A i) (fun j _ => by rw [hAs j, hp]; simp)]
      | false =>
        have hr := reach_eq (F := F) (x := y) (p := fun j => !p j) hg (by omega) (by rw [hp]; rfl) (by omega) hG hs
        rw [hn] at hr
        rw [cond_false, Option.bind_some, hr, Option.bind_some]
        have hcl8 : (listN (comp g (fun j => !p j) y) n).length ≤ 8 := by rw [listN_len]; exact Nat.le_trans cnt_le hn8
        refine loop_inv (L := fun k2 t s => s_l6Spread_l1 F (listN p n) (listN u n) g (listN (fun j => !p j) n) (i : Int) (listN (comp g (fun j => !p j) y) n) (s_l6Spread_l2 F (listN p n) (listN u n) g (listN (fun j => !p j) n) k) k2 s t) (n := (listN (comp g (fun j => !p j) y) n).length)
          (fun t s => s = listN (fun j => A i j || decide ((j : Int) ∈ (listN (comp g (fun j => !p j) y) n).take t)) n) ?_ ?_ F _ (by omega) ?_
        · intro k2 t s ht hI
          subst hI
          refine ⟨_, rfl, ?_⟩
          obtain ⟨z, hz, hzn, _⟩ := listN_get ht
          simp only [s_l6Spread_l1]
          rw [decide_eq_true (show (t : Int) < ((listN (comp g (fun j => !p j) y) n).length : Int) by omega), cond_true, idx_getD (d := 0) ht, Option.bind_some, hz, put_eq hn8 hzn (by omega), Option.bind_some, w64_succ ht (by unfold Sm; omega)]
          congr 1
          apply listN_congr
          intro j _
          have hp2 := pre_succ (x := z) ht hz j
          unfold preP at hp2
          rw [hp2, Bool.or_assoc]
        · intro k2 s hI
          subst hI
          simp only [s_l6Spread_l1]
          rw [decide_eq_false (show ¬ ((listN (comp g (fun j => !p j) y) n).length : Int) < ((listN (comp g (fun j => !p j) y) n).length : Int) by omega), cond_false, hwi]
          congr 1
          apply listN_congr
          intro j hj
          rw [List.take_length, hAs j, hp, Bool.not_false, Bool.true_and]
          congr 1
          rw [Bool.eq_iff_iff, decide_eq_true_eq, listN_mem]
          constructor
          · rintro ⟨j', e, _, h⟩
            obtain rfl : j = j' := by omega
            exact h
          · exact fun h => ⟨j, rfl, hj, h⟩
        · apply listN_congr; intro j _; simp
    · intro k s hI
      subst hI
      simp only [s_l6Spread_l2]
      rw [decide_eq_false (show ¬ ((listN u n).length : Int) < ((listN u n).length : Int) by omega), cond_false, listN_congr hfin]
    · rw [listN_congr (p := A 0) (q := fun _ => false) (fun j _ => rfl)]
      simp [listN]

theorem has_any {F n : Nat} {p : Nat → Bool} {y : Int} (hn : n ≤ 8) (hF : 20 ≤ F) (h0 : 0 ≤ y) (hy : y < n) : s_l1Has F (listN p n) y = some (p y.toNat) := by
  obtain ⟨x, rfl⟩ : ∃ x : Nat, y = x := ⟨y.toNat, by omega⟩
  rw [has_listN hn (by omega) hF, Int.toNat_natCast]

theorem sCan_eq {F : Nat} {g : Gr} {p u : Nat → Bool} {step : Int} (hg : good g = true) (hst : (Lit.int .i64 step).wf = true) (hF : 40 ≤ F) :
    s_l6Can F g (listN p g.1.toNat, listN u g.1.toNat) step = some (canB g.1.toNat p step) := by
  have h8 := good_size hg
  have hr := okI_iff.1 hst
  have hgn : g.1 = (g.1.toNat : Int) := by omega
  unfold s_l6Can s_l2Node canB
  by_cases h : step < 0
  · have hw : w64 (-1 - step) = stNode step := by have := stNode_w hst; rwa [if_pos h] at this
    have hx : stNode step = -1 - step := by unfold stNode; rw [if_pos h]
    have hw0 : w64 (0 - g.1) = -g.1 := by rw [w64_id (by omega) (by omega)]; omega
    rw [decide_eq_false (show ¬ step ≥ 0 by omega), cond_false, hw0, decide_eq_true h]
    by_cases hn : step ≥ -g.1
    · rw [decide_eq_true hn, cond_true, hw, has_any (by omega) (by omega) (by omega) (by omega), Option.bind_some, decide_eq_true (show stNode step < (g.1.toNat : Int) by omega), Bool.true_and]
      cases p (stNode step).toNat <;> rfl
    · rw [decide_eq_false hn, cond_false, decide_eq_false (show ¬ stNode step < (g.1.toNat : Int) by omega)]; rfl
  · have hx : stNode step = step := by unfold stNode; rw [if_neg h]
    have hw1 : w64 (g.1 - 1) = g.1 - 1 := w64_id (by omega) (by omega)
    rw [decide_eq_true (show step ≥ 0 by omega), cond_true, hw1, l1In_eq, Option.bind_some, Option.bind_some, decide_eq_true (show (0 : Int) ≤ step by omega), Bool.true_and, decide_eq_false h, hx]
    by_cases hn : step ≤ g.1 - 1
    · rw [decide_eq_true hn, cond_true, has_any (by omega) (by omega) (by omega) (by omega), Option.bind_some, decide_eq_true (show step < (g.1.toNat : Int) by omega), Bool.true_and]
      cases p step.toNat <;> rfl
    · rw [decide_eq_false hn, cond_false, decide_eq_false (show ¬ step < (g.1.toNat : Int) by omega)]; rfl

theorem sStep_eq {F : Nat} {g : Gr} {p u : Nat → Bool} {step : Int} (hg : good g = true) (hst : (Lit.int .i64 step).wf = true) (hc : canB g.1.toNat p step = true) (hF : 60 ≤ F) (hG : g.2.length < F) (hs : Sm g.2.length) :
    s_l6Step F g (listN p g.1.toNat, listN u g.1.toNat) step = some (listN (newP p step) g.1.toNat, listN (spr g (fun j => !newP p step j) u) g.1.toNat) := by
  have h8 := good_size hg
  have hr := okI_iff.1 hst
  unfold canB at hc
  simp only [Bool.and_eq_true, decide_eq_true_eq] at hc
  have hx0 := stNode_nn (step := step)
  unfold s_l6Step s_l6Step_j1
  simp only
  rw [without_eq (by omega) (by omega), Option.bind_some]
  by_cases h : step < 0
  · have hw : w64 (-1 - step) = stNode step := by have := stNode_w hst; rwa [if_pos h] at this
    rw [decide_eq_false (show ¬ step ≥ 0 by omega), cond_false, hw]
    have e : listN (fun j => p j && !((j : Int) == stNode step)) g.1.toNat = listN (newP p step) g.1.toNat := by
      apply listN_congr
      intro j _
      unfold newP
      rw [if_pos h]
      congr 2
      rw [Bool.eq_iff_iff]; simp; omega
    rw [e, spread_eq hg hF hG hs, Option.bind_some]
  · have hx : stNode step = step := by unfold stNode; rw [if_neg h]
    obtain ⟨x, hx2⟩ : ∃ x : Nat, step = x := ⟨step.toNat, by omega⟩
    rw [decide_eq_true (show step ≥ 0 by omega), cond_true]
    have hput := put_eq (F := F) (n := g.1.toNat) (x := x) (p := p) (by omega) (by omega) (by omega)
    rw [← hx2] at hput
    rw [hput, Option.bind_some]
    have e : listN (fun j => p j || j == x) g.1.toNat = listN (newP p step) g.1.toNat := by
      apply listN_congr
      intro j _
      unfold newP
      rw [if_neg h, hx, hx2, Int.toNat_natCast]
    rw [e, spread_eq hg hF hG hs, Option.bind_some]

/-- the states of a program -/
def stt (g : Gr) (l : List Int) : Nat → (Nat → Bool) × (Nat → Bool)
  | 0 => (fun _ => false, fun j => decide (j < g.1.toNat))
  | i + 1 => (newP (stt g l i).1 (l.getD i 0), spr g (fun j => !newP (stt g l i).1 (l.getD i 0) j) (stt g l i).2)
def canP (g : Gr) (l : List Int) (i : Nat) : Bool := canB g.1.toNat (stt g l i).1 (l.getD i 0)
/-- a program -/
def progB (g : Gr) (l : List Int) : Bool := decide (l.length ≤ 40) && allN (canP g l) l.length

theorem stt_lt {g : Gr} (hg : good g = true) {l : List Int} : ∀ i j, (stt g l i).2 j = true → j < g.1.toNat
  | 0, j, h => by simpa [stt] using h
  | i + 1, j, h => spr_lt hg h

theorem all_eq {F : Nat} {g : Gr} (hg : good g = true) (hF : 20 ≤ F) : s_l2All F g = some (listN (fun j => decide (j < g.1.toNat)) g.1.toNat) := by
  have h8 := good_size hg
  have hgn : (g.1.toNat : Int) = g.1 := by omega
  have hpow := Nat.two_pow_pos g.1.toNat
  have hpl := pow_lt (j := g.1.toNat) (by omega)
  unfold s_l2All
  have hsh := one_shl (j := g.1.toNat) (by omega)
  rw [hgn] at hsh
  rw [hsh, Option.bind_some]
  have hw : w64 (((2 ^ g.1.toNat : Nat) : Int) - 1) = ((2 ^ g.1.toNat - 1 : Nat) : Int) := by rw [w64_id (by omega) (by omega)]; omega
  have hb := bits_eq (F := F) (n := g.1.toNat) (code := 2 ^ g.1.toNat - 1) (by omega) (by omega) (by omega)
  rw [hgn] at hb
  rw [hw, hb, Option.bind_some]
  congr 1
  apply listN_congr
  intro j _
  rw [Nat.testBit_two_pow_sub_one]

theorem sProg_eq {F : Nat} {g : Gr} {l : List Int} (hg : good g = true) (hw : ∀ x ∈ l, (Lit.int .i64 x).wf = true) (hF : 60 ≤ F) (hG : g.2.length < F) (hl : l.length < F) (hs : Sm g.2.length) (hsl : Sm l.length) : s_l6Program F g l = some (progB g l) := by
  unfold s_l6Program s_l6Begin
  rw [all_eq hg (by omega), Option.bind_some, Option.bind_some]
  simp only
  rw [loop_st (L := fun k i (s : List Int × List Int) => s_l6Program_l1 F l g k s.1 s.2 i) (n := l.length) (fun i s => s = (listN (stt g l i).1 g.1.toNat, listN (stt g l i).2 g.1.toNat)) (p := canP g l) (r := some (decide (l.length ≤ 40))) (bad := some false) ?_ ?_ ?_ F ([], listN (fun j => decide (j < g.1.toNat)) g.1.toNat) hl ?_]
  · unfold progB
    cases allN (canP g l) l.length <;> simp
  · intro k i s hi hI hp
    subst hI
    refine ⟨_, rfl, ?_⟩
    have hst := hw _ (getD_mem (d := 0) hi)
    simp only [s_l6Program_l1]
    rw [decide_eq_true (show (i : Int) < (l.length : Int) by omega), cond_true, idx_getD (d := 0) hi, Option.bind_some, sCan_eq hg hst (by omega), Option.bind_some]
    have hp' : canB g.1.toNat (stt g l i).1 (l.getD i 0) = true := hp
    rw [hp', Bool.not_true, cond_false, Option.bind_some, sStep_eq hg hst hp' hF hG hs, Option.bind_some, w64_succ hi hsl]
    rfl
  · intro k i s hi hI hp
    subst hI
    have hst := hw _ (getD_mem (d := 0) hi)
    have hp' : canB g.1.toNat (stt g l i).1 (l.getD i 0) = false := hp
    simp only [s_l6Program_l1]
    rw [decide_eq_true (show (i : Int) < (l.length : Int) by omega), cond_true, idx_getD (d := 0) hi, Option.bind_some, sCan_eq hg hst (by omega), Option.bind_some, hp', Bool.not_false, cond_true]
  · intro k s hI
    simp only [s_l6Program_l1]
    rw [decide_eq_false (show ¬ (l.length : Int) < (l.length : Int) by omega), cond_false]
    congr 1
    rw [Bool.eq_iff_iff]; simp; omega
  · simp [stt, listN]

/-- the program's states, as the program has them -/
def stI (g : Gr) (l : List Int) (k : Nat) : List (Int × Int) := (List.range k).map fun t => (((mkm (stt g l t).1 g.1.toNat : Nat) : Int), ((mkm (stt g l t).2 g.1.toNat : Nat) : Int))
theorem stI_len {g : Gr} {l : List Int} {k : Nat} : (stI g l k).length = k := by simp [stI]
theorem stI_succ {g : Gr} {l : List Int} {k : Nat} : stI g l (k + 1) = stI g l k ++ [(((mkm (stt g l k).1 g.1.toNat : Nat) : Int), ((mkm (stt g l k).2 g.1.toNat : Nat) : Int))] := by simp [stI, List.range_succ]
theorem stI_get {g : Gr} {l : List Int} {k i : Nat} (h : i < k) : (stI g l k).getD i (0, 0) = (((mkm (stt g l i).1 g.1.toNat : Nat) : Int), ((mkm (stt g l i).2 g.1.toNat : Nat) : Int)) := by
  simp [stI, List.getD_eq_getElem?_getD, h]

theorem iRun_eq {F : Nat} {g : Gr} {l : List Int} (hg : good g = true) (hw : ∀ x ∈ l, (Lit.int .i64 x).wf = true) (hF : 60 ≤ F) (hsl : Sm l.length) : i_net_runProgram F ⟨nearL g⟩ l = some (bif progB g l then (stI g l (l.length + 1), true) else ([], false)) := by
  have h8 := good_size hg
  have hpow := Nat.two_pow_pos g.1.toNat
  have hpl := pow_lt (j := g.1.toNat) (by omega)
  unfold i_net_runProgram progB
  by_cases hl : l.length ≤ 40
  · rw [decide_eq_false (show ¬ (l.length : Int) > 40 by omega), cond_false, decide_eq_true hl, Bool.true_and]
    unfold i_net_all
    rw [nearL_len, one_shl (by omega), Option.bind_some, Option.bind_some]
    have hw1 : w64 (((2 ^ g.1.toNat : Nat) : Int) - 1) = ((2 ^ g.1.toNat - 1 : Nat) : Int) := by rw [w64_id (by omega) (by omega)]; omega
    rw [hw1, loop_st (L := fun k i s => i_net_runProgram_l1 F ⟨nearL g⟩ l k s i) (n := l.length) (fun i s => s = stI g l (i + 1)) (p := canP g l) (r := some (stI g l (l.length + 1), true)) (bad := some ([], false)) ?_ ?_ ?_ F _ (by omega) ?_]
    · cases allN (canP g l) l.length <;> rfl
    · intro k i s hi hI hp
      subst hI
      refine ⟨_, rfl, ?_⟩
      have hst := hw _ (getD_mem (d := 0) hi)
      obtain ⟨r, h1, h2, h3⟩ := iAfter_eq (F := F) (p := (stt g l i).1) (u := (stt g l i).2) hg hst (stt_lt hg i) (by omega)
      have hp' : canB g.1.toNat (stt g l i).1 (l.getD i 0) = true := hp
      simp only [i_net_runProgram_l1]
      rw [decide_eq_true (show (i : Int) < (l.length : Int) by omega), cond_true, idx_getD (d := 0) hi, Option.bind_some, idx_getD (d := (0, 0)) (by rw [stI_len]; omega), Option.bind_some, stI_get (by omega), h1, Option.bind_some, h2, hp', Bool.not_true, cond_false, h3 hp', appL_one (by rw [stI_len]; omega), Option.bind_some, w64_succ hi hsl, stI_succ (k := i + 1)]
      rfl
    · intro k i s hi hI hp
      subst hI
      have hst := hw _ (getD_mem (d := 0) hi)
      obtain ⟨r, h1, h2, h3⟩ := iAfter_eq (F := F) (p := (stt g l i).1) (u := (stt g l i).2) hg hst (stt_lt hg i) (by omega)
      have hp' : canB g.1.toNat (stt g l i).1 (l.getD i 0) = false := hp
      simp only [i_net_runProgram_l1]
      rw [decide_eq_true (show (i : Int) < (l.length : Int) by omega), cond_true, idx_getD (d := 0) hi, Option.bind_some, idx_getD (d := (0, 0)) (by rw [stI_len]; omega), Option.bind_some, stI_get (by omega), h1, Option.bind_some, h2, hp', Bool.not_false, cond_true]
    · intro k s hI
      subst hI
      simp only [i_net_runProgram_l1]
      rw [decide_eq_false (show ¬ (l.length : Int) < (l.length : Int) by omega), cond_false]
    · have e1 : mkm (stt g l 0).1 g.1.toNat = 0 := by rw [mkm_zero, fst_none]; intro j _; rfl
      have e2 : mkm (stt g l 0).2 g.1.toNat = 2 ^ g.1.toNat - 1 := by
        symm
        refine mkm_of fun j => ?_
        rw [Nat.testBit_two_pow_sub_one]
        show decide (j < g.1.toNat) = (decide (j < g.1.toNat) && decide (j < g.1.toNat))
        rw [Bool.and_self]
      show [(0, _)] = stI g l 1
      simp [stI, e1, e2]
  · rw [decide_eq_true (show (l.length : Int) > 40 by omega), cond_true, decide_eq_false hl, Bool.false_and]; rfl

/-- the program's states, as the reference has them -/
def stS (g : Gr) (l : List Int) (k : Nat) : List (List Int × List Int) := (List.range k).map fun t => (listN (stt g l t).1 g.1.toNat, listN (stt g l t).2 g.1.toNat)
theorem stS_len {g : Gr} {l : List Int} {k : Nat} : (stS g l k).length = k := by simp [stS]
theorem stS_succ {g : Gr} {l : List Int} {k : Nat} : stS g l (k + 1) = stS g l k ++ [(listN (stt g l k).1 g.1.toNat, listN (stt g l k).2 g.1.toNat)] := by simp [stS, List.range_succ]
theorem stS_get {g : Gr} {l : List Int} {k i : Nat} (h : i < k) : (stS g l k).getD i ([], []) = (listN (stt g l i).1 g.1.toNat, listN (stt g l i).2 g.1.toNat) := by
  simp [stS, List.getD_eq_getElem?_getD, h]

theorem progB_len {g : Gr} {l : List Int} (h : progB g l = true) : l.length ≤ 40 := by
  unfold progB at h
  simp only [Bool.and_eq_true, decide_eq_true_eq] at h
  exact h.1

theorem sStates_eq {F : Nat} {g : Gr} {l : List Int} (hg : good g = true) (hw : ∀ x ∈ l, (Lit.int .i64 x).wf = true) (hp : progB g l = true) (hF : 60 ≤ F) (hG : g.2.length < F) (hs : Sm g.2.length) : s_l6States F g l = some (stS g l (l.length + 1)) := by
  have h40 := progB_len hp
  have hall : allN (canP g l) l.length = true := by
    unfold progB at hp
    simp only [Bool.and_eq_true] at hp
    exact hp.2
  unfold s_l6States s_l6Begin
  rw [all_eq hg (by omega), Option.bind_some, Option.bind_some]
  refine loop_inv (L := fun k i s => s_l6States_l1 F l g k s i) (n := l.length) (fun i s => s = stS g l (i + 1)) ?_ ?_ F _ (by omega) ?_
  · intro k i s hi hI
    subst hI
    refine ⟨_, rfl, ?_⟩
    have hst := hw _ (getD_mem (d := 0) hi)
    have hp' : canB g.1.toNat (stt g l i).1 (l.getD i 0) = true := allN_iff.1 hall i hi
    simp only [s_l6States_l1]
    rw [decide_eq_true (show (i : Int) < (l.length : Int) by omega), cond_true, idx_getD (d := ([], [])) (by rw [stS_len]; omega), Option.bind_some, idx_getD (d := 0) hi, Option.bind_some, stS_get (by omega), sStep_eq hg hst hp' hF hG hs, Option.bind_some, appL_one (by rw [stS_len]; omega), Option.bind_some, w64_succ hi (by unfold Sm; omega), stS_succ (k := i + 1)]
    rfl
  · intro k s hI
    subst hI
    simp only [s_l6States_l1]
    rw [decide_eq_false (show ¬ (l.length : Int) < (l.length : Int) by omega), cond_false]
  · simp [stS, stt, listN]

end Go.Zq
/- Plain mathematics: steady programs; how many searchers are used. -/
namespace Go.Zq

theorem iProgOf_eq {F : Nat} {g : Gr} {l : List Int} (hw : ∀ x ∈ l, (Lit.int .i64 x).wf = true) (hG : g.2.length < F) (hF : 60 ≤ F) (hsl : Sm l.length) (hs : Sm g.2.length) : i_programOf F g l = some (bif good g && progB g l then (stI g l (l.length + 1), true) else ([], false)) := by
  unfold i_programOf
  rw [isGraph_eq hG (by omega) hs, Option.bind_some]
  cases hg : good g with
  | false => rfl
  | true =>
    rw [Bool.not_true, cond_false, netOf_eq hg hG hs, Option.bind_some, iRun_eq hg hw hF hsl, Option.bind_some, Bool.true_and]

/-- the most searchers in the first states -/
def usedN (g : Gr) (l : List Int) (k : Nat) : Int := (List.range k).foldl (fun s i => max s (cntN (stt g l i).1 g.1.toNat : Int)) 0
theorem usedN_succ {g : Gr} {l : List Int} {k : Nat} : usedN g l (k + 1) = max (usedN g l k) (cntN (stt g l k).1 g.1.toNat : Int) := by simp [usedN, List.range_succ]

theorem sUsed_eq {F : Nat} {g : Gr} {l : List Int} (hw : ∀ x ∈ l, (Lit.int .i64 x).wf = true) (hl : l.length < F) (hG : g.2.length < F) (hF : 60 ≤ F) (hsl : Sm l.length) (hs : Sm g.2.length) : s_SearchersUsed F g l = some (bif good g && progB g l then (usedN g l (l.length + 1), true) else (0, false)) := by
  unfold s_SearchersUsed
  rw [l2Good_eq hG hs, Option.bind_some]
  cases hg : good g with
  | false => rfl
  | true =>
    have h8 := good_size hg
    rw [Bool.not_true, cond_false, sProg_eq hg hw hF hG hl hs hsl, Option.bind_some, Bool.true_and]
    unfold s_SearchersUsed_j1
    cases hp : progB g l with
    | false => rfl
    | true =>
      have h40 := progB_len hp
      rw [Bool.not_true, cond_false, cond_true, sStates_eq hg hw hp hF hG hs, Option.bind_some]
      refine loop_inv (L := fun k i s => s_SearchersUsed_l1 F (stS g l (l.length + 1)) k s i) (n := l.length + 1) (fun i s => s = usedN g l i) ?_ ?_ F _ (by omega) rfl
      · intro k i s hi hI
        subst hI
        refine ⟨_, rfl, ?_⟩
        simp only [s_SearchersUsed_l1]
        rw [stS_len, decide_eq_true (show (i : Int) < ((l.length + 1 : Nat) : Int) by omega), cond_true, idx_getD (d := ([], [])) (by rw [stS_len]; omega), Option.bind_some, stS_get (by omega), usedN_succ, w64_succ hi (by unfold Sm; omega)]
        simp only [listN_len]
        unfold s_l1Most
        by_cases h : usedN g l i > (cntN (stt g l i).1 g.1.toNat : Int)
        · rw [decide_eq_true h, cond_true, Option.bind_some, Int.max_eq_left (by omega)]
        · rw [decide_eq_false h, cond_false, Option.bind_some, Int.max_eq_right (by omega)]
      · intro k s hI
        subst hI
        simp only [s_SearchersUsed_l1]
        rw [stS_len, decide_eq_false (show ¬ ((l.length + 1 : Nat) : Int) < ((l.length + 1 : Nat) : Int) by omega), cond_false]

theorem iUsed_eq {F : Nat} {g : Gr} {l : List Int} (hw : ∀ x ∈ l, (Lit.int .i64 x).wf = true) (hl : l.length < F) (hG : g.2.length < F) (hF : 60 ≤ F) (hsl : Sm l.length) (hs : Sm g.2.length) : i_SearchersUsed F g l = some (bif good g && progB g l then (usedN g l (l.length + 1), true) else (0, false)) := by
  unfold i_SearchersUsed
  rw [iProgOf_eq hw hG hF hsl hs, Option.bind_some]
  cases hgp : (good g && progB g l) with
  | false => rfl
  | true =>
    simp only [Bool.and_eq_true] at hgp
    have h8 := good_size hgp.1
    have h40 := progB_len hgp.2
    simp only [cond_true, Bool.not_true, cond_false]
    refine loop_inv (L := fun k i s => i_SearchersUsed_l1 F (stI g l (l.length + 1), true) k s i) (n := l.length + 1) (fun i s => s = usedN g l i) ?_ ?_ F _ (by omega) rfl
    · intro k i s hi hI
      subst hI
      refine ⟨_, rfl, ?_⟩
      simp only [i_SearchersUsed_l1]
      rw [stI_len, decide_eq_true (show (i : Int) < ((l.length + 1 : Nat) : Int) by omega), cond_true, idx_getD (d := (0, 0)) (by rw [stI_len]; omega), Option.bind_some, stI_get (by omega), usedN_succ, w64_succ hi (by unfold Sm; omega)]
      simp only
      rw [ones_eq (mkm_256 (by omega)), Option.bind_some, popc_mkm (by omega)]
      by_cases h : (cntN (stt g l i).1 g.1.toNat : Int) > usedN g l i
      · rw [if_pos h, Int.max_eq_right (by omega)]
      · rw [if_neg h, Int.max_eq_left (by omega)]
    · intro k s hI
      subst hI
      simp only [i_SearchersUsed_l1]
      rw [stI_len, decide_eq_false (show ¬ ((l.length + 1 : Nat) : Int) < ((l.length + 1 : Nat) : Int) by omega), cond_false]

end Go.Zq
/- The law SearchersUsed, as a plain statement. -/
namespace Go.Zq

theorem lawSearchersUsed {F : Nat} {g : Gr} {l : List Int} (hw : ∀ x ∈ l, (Lit.int .i64 x).wf = true) (hF : 2097152 ≤ F) (hg : g.2.length ≤ 9223372036854775807) : w_FnExactSearchersUsed F g l = some true := by
  unfold w_FnExactSearchersUsed
  by_cases h : (l.length : Int) > 1048576
  · simp [h]
  simp only [h, decide_false, cond_false]
  rw [szGraph_eq (by omega) (by omega) hg, Option.bind_some]
  by_cases h2 : (1048576 : Int) - g.2.length < 0
  · simp [h2]
  simp only [h2, if_false, decide_false, cond_false]
  rw [toGraph_eq (by omega) (by omega) (by omega), toIntS_eq (by omega) (by omega)]
  simp only [Option.bind_some]
  rw [sUsed_eq hw (by omega) (by omega) (by omega) (by unfold Sm; omega) (by unfold Sm; omega), iUsed_eq hw (by omega) (by omega) (by omega) (by unfold Sm; omega) (by unfold Sm; omega)]
  simp only [Option.bind_some, bne_self_eq_false, cond_false, w_FnExactSearchersUsed_j1]
  rw [toGraph_eq (by omega) (by omega) (by omega), toIntS_eq (by omega) (by omega)]
  simp only [Option.bind_some]
  rw [eqGraph_eq (by omega) (by unfold Sm; omega) (by omega), eqIntS_eq (by omega) (by unfold Sm; omega)]
  rfl

end Go.Zq
