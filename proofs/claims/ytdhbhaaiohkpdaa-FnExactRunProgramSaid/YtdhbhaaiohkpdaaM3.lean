/- Plain mathematics: what the functions answer (part 3). Conditions: stated in each theorem. -/
import Derived.Test.YtdhbhaaiohkpdaaM2
import Derived.Test.YtdhbhaaiohkpdaaM1
set_option linter.unusedVariables false
set_option linter.unusedSimpArgs false
/- Plain mathematics: decompositions. -/
namespace Go.Zq

end Go.Zq
/- Plain mathematics: the filling of an elimination, and its width. -/
namespace Go.Zq

end Go.Zq
/- Plain mathematics: the bags of a layout. -/
namespace Go.Zq

theorem appL_some {α : Type} {xs ys : List α} (h : xs.length + ys.length ≤ 1099511627776) : appL xs ys = some (xs ++ ys) := by
  unfold appL
  rw [if_pos (by simpa using h)]

theorem sumL0_mul {n : Nat} : ∀ (ns : List Nat), (∀ x ∈ ns, x ≤ n) → sumL0 ns ≤ ns.length * n
  | [], _ => by simp [sumL0]
  | x :: ns, h => by
    have h1 := h x (by simp)
    have h2 := sumL0_mul ns fun y hy => h y (by simp [hy])
    simp only [sumL0, List.length_cons, Nat.add_mul]
    omega

end Go.Zq
/- Plain mathematics: the unsafe nodes after each step of a program. -/
namespace Go.Zq

def unsL (g : Gr) (l : List Int) (k : Nat) : List (List Int) := (List.range k).map fun t => listN (stt g l (t + 1)).2 g.1.toNat
theorem unsL_len {g : Gr} {l : List Int} {k : Nat} : (unsL g l k).length = k := by simp [unsL]
theorem unsL_succ {g : Gr} {l : List Int} {k : Nat} : unsL g l (k + 1) = unsL g l k ++ [listN (stt g l (k + 1)).2 g.1.toNat] := by simp [unsL, List.range_succ]

theorem own_eq {F : Nat} {l : List Int} (hl : l.length ≤ 1000) : s_l1Own F l = some l := by
  unfold s_l1Own
  unfold appL
  rw [if_pos (by simp; omega)]
  simp

theorem sUns_eq {F : Nat} {g : Gr} {l : List Int} (h8 : 0 ≤ g.1 ∧ g.1 ≤ 8) (hp : progB g l = true) (hF : 60 ≤ F) : s_RunProgram_l1 F (stS g l (l.length + 1)) F [] 1 = some (unsL g l l.length, true) := by
  have h40 := progB_len hp
  have := loop_inv (L := fun k i s => s_RunProgram_l1 F (stS g l (l.length + 1)) k s (i + 1)) (n := l.length) (r := some (unsL g l l.length, true)) (fun i s => s = unsL g l i) (by
    rintro k i s hi rfl
    refine ⟨_, rfl, ?_⟩
    have hcast : (i : Int) + 1 = ((i + 1 : Nat) : Int) := by omega
    have hle := listN_le (p := (stt g l (i + 1)).2) (n := g.1.toNat)
    simp only [s_RunProgram_l1, stS_len]
    rw [hcast, decide_eq_true (show ((i + 1 : Nat) : Int) < ((l.length + 1 : Nat) : Int) by omega), cond_true, idx_getD (d := ([], [])) (by rw [stS_len]; omega), Option.bind_some, stS_get (by omega)]
    simp only
    rw [own_eq (by omega), Option.bind_some, appL_some (by simp [unsL_len]; omega), Option.bind_some, unsL_succ, w64_succ (show i + 1 < l.length + 1 by omega) (by unfold Sm; omega)]
    congr 1) (by
    rintro k s rfl
    simp only [s_RunProgram_l1, stS_len]
    rw [decide_eq_false (show ¬ (l.length : Int) + 1 < ((l.length + 1 : Nat) : Int) by omega), cond_false]) F [] (by omega) (by simp [unsL])
  simpa using this

theorem iUns_eq {F : Nat} {g : Gr} {l : List Int} (h8 : 0 ≤ g.1 ∧ g.1 ≤ 8) (hp : progB g l = true) (hF : 60 ≤ F) : ∃ o : NL (NL Int), i_RunProgram_o_l1 F ((stI g l (l.length + 1)).drop 1) F .nil 0 = some (o, true) ∧ o.list.map NL.list = unsL g l l.length := by
  have h40 := progB_len hp
  have hdl : ((stI g l (l.length + 1)).drop 1).length = l.length := by simp [stI_len]
  obtain ⟨s, h1, h2⟩ := loop_ex (L := fun k t (s : NL (NL Int)) => i_RunProgram_o_l1 F ((stI g l (l.length + 1)).drop 1) k s t) (n := l.length) (fin := fun s => some (s, true)) (fun t s => s.list.map NL.list = unsL g l t) (by
    rintro k t zs ht h1
    have hzl : zs.list.length = t := by have := congrArg List.length h1; simpa [unsL_len] using this
    obtain ⟨r, hr1, hr2⟩ := setOf_o_eq (F := F) (n := g.1.toNat) (p := (stt g l (t + 1)).2) (by omega) (by omega)
    refine ⟨.of (zs.list ++ [r]), ?_, ?_⟩
    · show List.map NL.list (zs.list ++ [r]) = _
      rw [List.map_append, h1, unsL_succ]
      simp only [List.map_cons, List.map_nil, hr2]
    · simp only [i_RunProgram_o_l1, hdl]
      have hget : ((stI g l (l.length + 1)).drop 1).getD t (0, 0) = (stI g l (l.length + 1)).getD (t + 1) (0, 0) := by
        rw [List.getD_eq_getElem?_getD, List.getD_eq_getElem?_getD, List.getElem?_drop, Nat.add_comm 1 t]
      rw [decide_eq_true (show (t : Int) < (l.length : Int) by omega), cond_true, idx_getD (d := (0, 0)) (by rw [hdl]; exact ht), Option.bind_some, hget, stI_get (by omega)]
      simp only
      rw [hr1, Option.bind_some, appL_some (by simp; omega), Option.bind_some, w64_succ ht (by unfold Sm; omega)])
    (by
      rintro k zs h1
      simp only [i_RunProgram_o_l1, hdl]
      rw [decide_eq_false (show ¬ (l.length : Int) < (l.length : Int) by omega), cond_false]) F .nil (by omega) (by simp [NL.list, unsL])
  exact ⟨s, h2, h1⟩

theorem exRunProgram {F : Nat} {g : Gr} {l : List Int} (hw : ∀ x ∈ l, (Lit.int .i64 x).wf = true) (hl : l.length < F) (hG : g.2.length < F) (hF : 60 ≤ F) (hsl : Sm l.length) (hs : Sm g.2.length) :
    ∃ R b o, s_RunProgram F g l = some (R, b) ∧ i_RunProgram_o F g l = some (o, b) ∧ o.list.map NL.list = R ∧ R.length ≤ 40 ∧ ∀ x ∈ R, x.length ≤ 8 := by
  unfold s_RunProgram i_RunProgram_o i_programOf
  rw [l2Good_eq hG hs, isGraph_eq hG (by omega) hs, Option.bind_some, Option.bind_some]
  cases hg : good g with
  | false => exact ⟨[], false, .nil, rfl, rfl, rfl, by simp, by simp⟩
  | true =>
    have h8 := good_size hg
    rw [Bool.not_true, cond_false, cond_false, sProg_eq hg hw hF hG hl hs hsl, Option.bind_some, netOf_eq hg hG hs, Option.bind_some, iRun_eq hg hw hF hsl, Option.bind_some, Option.bind_some]
    cases hp : progB g l with
    | false => exact ⟨[], false, .nil, rfl, rfl, rfl, by simp, by simp⟩
    | true =>
      have h40 := progB_len hp
      obtain ⟨o, h1, h2⟩ := iUns_eq h8 hp hF
      refine ⟨unsL g l l.length, true, o, ?_, ?_, h2, by rw [unsL_len]; omega, ?_⟩
      · unfold s_RunProgram_j1
        rw [Bool.not_true, cond_false, sStates_eq hg hw hp hF hG hs, Option.bind_some]
        exact sUns_eq h8 hp hF
      · simp only [cond_true, Bool.not_true, cond_false]
        have hsub : sub (stI g l (l.length + 1)) 1 ((stI g l (l.length + 1)).length : Int) = some ((stI g l (l.length + 1)).drop 1) := sub_drop (i := 1) (by rw [stI_len]; omega)
        rw [hsub, Option.bind_some]
        exact h1
      · intro x hx
        simp only [unsL, List.mem_map] at hx
        obtain ⟨i, _, rfl⟩ := hx
        have := listN_le (p := (stt g l (i + 1)).2) (n := g.1.toNat)
        omega

end Go.Zq
/- The law RunProgram, as a plain statement. -/
namespace Go.Zq

theorem lawRunProgram {F : Nat} {g : Gr} {l : List Int} (hw : ∀ x ∈ l, (Lit.int .i64 x).wf = true) (hF : 2097152 ≤ F) (hg : g.2.length ≤ 9223372036854775807) : w_FnExactRunProgram F g l = some true := by
  unfold w_FnExactRunProgram
  by_cases h : (l.length : Int) > 1048576
  · simp [h]
  simp only [h, decide_false, cond_false]
  rw [szGraph_eq (by omega) (by omega) hg, Option.bind_some]
  by_cases h2 : (1048576 : Int) - g.2.length < 0
  · simp [h2]
  simp only [h2, if_false, decide_false, cond_false]
  obtain ⟨R, b, o, hs, hi, ho, hl, hl2⟩ := exRunProgram (F := F) (g := g) (l := l) hw (by omega) (by omega) (by omega) (by unfold Sm; omega) (by unfold Sm; omega)
  have e1 : w_toGraph F g = some g := toGraph_eq (by omega) (by omega) (by omega)
  have e2 : w_toGraph_o F g = some (g.1, .of g.2) := toGraph_o_eq (by omega) (by omega) (by omega)
  have e3 : w_toIntS F l = some l := toIntS_eq (by omega) (by omega)
  have e4 : w_toIntS_o F l = some (.of l) := toIntS_o_eq (by omega) (by omega)
  have e5 : w_eqIntSS F (List.map NL.list o.list) R = some true := by rw [ho]; exact eqIntSS_eq (by omega) (by unfold Sm; omega) fun x hx => by have := hl2 x hx; exact ⟨by omega, (by unfold Sm; omega)⟩
  have e6 : w_eqGraph F (g.1, (NL.of g.2).list) g = some true := eqGraph_eq (g := g) (by omega) (by unfold Sm; omega) (by omega)
  have e7 : w_eqIntS F (NL.of l).list l = some true := eqIntS_eq (xs := l) (by omega) (by unfold Sm; omega)
  obtain ⟨yg, e8, _, _⟩ := markGraph_eq (F := F) (a := g.1) (xs := g.2) (k := 1) (by omega) (by omega) (by omega) (by omega) (by omega)
  obtain ⟨o1, m1, _, _⟩ := markIntS_eq (F := F) (o := .of l) (k := 1 + 2 * (g.2.length : Int)) (by simp only [NL.list]; omega) (by simp only [NL.list]; omega) (by omega) (by omega)
  have e9 : decide ((1 + 2 * (g.2.length : Int) + ((NL.of l).list.length : Int)) < 0) = false := decide_eq_false (by omega)
  obtain ⟨ns, hns⟩ : ∃ ns, o.list.map (fun o => o.list.length) = ns := ⟨_, rfl⟩
  have hns2 : ns = R.map List.length := by rw [← hns, ← ho, List.map_map]; rfl
  have hnl : ns.length ≤ 1024 := by rw [hns2, List.length_map]; omega
  have hsum : sumL0 ns ≤ 1048576 := by have h9 := sumL0_mul (n := 1024) ns (by intro x hx; rw [hns2] at hx; obtain ⟨y, hy, rfl⟩ := List.mem_map.1 hx; have := hl2 y hy; omega); have h10 : ns.length * 1024 ≤ 1024 * 1024 := Nat.mul_le_mul_right _ hnl; omega
  obtain ⟨o2, m2, m3, m4⟩ := markIntSS_eq (F := F) (o := o) (k := 1) hns (by omega) (by omega) (by unfold Sm; omega) (by omega) (by omega) (by omega)
  have e10 : w_heldIntSS F (List.map NL.list o2.list) 1 = (some (1 + ((sumL0 ns : Nat) : Int)) : Option Int) := by rw [m4]; exact heldIntSS_eq (by omega) (by omega) (by unfold Sm; omega) (by omega) (by omega) (by omega)
  have e11 : decide ((1 + (sumL0 ns : Int)) < 0) = false := decide_eq_false (by omega)
  have hi1 : i_RunProgram_o F (g.1, (NL.of g.2).list) (NL.of l).list = some (o, b) := hi
  simp only [w_FnExactRunProgram_j1, w_FnExactRunProgram_j2, w_FnExactRunProgram_j3, e1, e2, e3, e4, e5, e6, e7, e8, m1, e9, e10, e11, hs, hi, hi1, m2, m3, Option.bind_some, Bool.not_true, cond_false, bne_self_eq_false]

end Go.Zq
