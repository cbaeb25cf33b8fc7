/- Functions of the program as typed functions, and that the machine runs as they say (part 4). No further condition. -/
import Derived.Test.YtonidecbmdpfhaaK3
import Derived.Test.YtonidecbmdpfhaaProg
import Derived.Test.YtonidecbmdpfhaaChecked
import Derived.KernelRfl
import Derived.Test.YtonidecbmdpfhaaG3
set_option linter.unusedVariables false
set_option linter.unusedSimpArgs false
/- Functions of the program, as typed functions, and that the machine runs as they say. -/
namespace Go.Zq
open Go.Proofs
/- loop.example/g01109/laws.FnExactBestElimination -/
def A14_1 : AC := (.cond (.t 87) (.seq (.reg [] [(.mk (some 2) none false (.v (.mov (.k (.bool false)))))] []) .ret) .skip)
def A14_5 : AC := (.cond (.t 92) (.seq (.reg [] [(.mk (some 2) none false (.v (.mov (.k (.bool false)))))] []) .ret) .skip)
def A14_7 : AC := (.cond (.t 95) (.seq (.reg [] [(.mk (some 2) none false (.v (.mov (.k (.bool false)))))] []) .ret) .skip)
def A14_8 : AC := (.seq (.reg [] [(.mk (some 2) none false (.v (.mov (.k (.bool true)))))] []) .ret)
def A14_6 : AC := (.seq (.seq (.reg [] [(.mk (some 93) none false (.v (.mov (.t 11)))), (.mk (some 94) none false (.v (.mov (.t 10)))), (.mk (some 95) none false (.v (.bin .neq (.t 93) (.t 94))))] []) A14_7) A14_8)
def A14_4 : AC := (.seq (.seq (.reg [] [(.mk (some 91) none false (.v (.mov (.t 11)))), (.mk (some 92) none false (.v (.bin .lss (.t 91) (.k (.int .i64 (.ofNat 0))))))] []) A14_5) A14_6)
def A14_3 : AC := (.seq (.reg [] [(.mk (some 88) none false (.v (.mov (.t 7)))), (.mk (some 89) none false (.v (.mov (.t 11)))), (.mk (some 90) none false (.call (.k (.fn 23 [] [])) [(.t 88), (.t 89)])), (.mk (some 11) none false (.v (.mov (.t 90))))] []) A14_4)
def A14_2 : AC := (.seq (.reg [] [(.mk (some 11) none false (.v (.mov (.k (.int .i64 (.ofNat 1))))))] []) A14_3)
def A14_9 : AC := (.cond (.t 61) (.seq (.reg [] [(.mk (some 2) none false (.v (.mov (.k (.bool false)))))] []) .ret) .skip)
def A14_15 : AC := (.cond (.t 69) (.seq (.reg [] [(.mk (some 2) none false (.v (.mov (.k (.bool false)))))] []) .ret) .skip)
def A14_17 : AC := (.cond (.t 72) (.seq (.reg [] [(.mk (some 2) none false (.v (.mov (.k (.bool false)))))] []) .ret) .skip)
def A14_19 : AC := (.seq (.seq (.reg [] [(.mk (some 79) none false (.v (.mov (.t 12)))), (.mk (some 80) none false (.v (.mov (.t 4)))), (.mk (some 81) none false (.call (.k (.fn 19 [] [])) [(.t 79), (.t 80)])), (.mk (some 82) none false (.v (.un .not (.t 81)))), (.mk (some 83) none false (.v (.mov (.t 82)))), (.mk (some 84) (some (83, false)) false (.v (.mov (.t 13)))), (.mk (some 85) (some (83, false)) false (.v (.mov (.t 5)))), (.mk (some 86) (some (83, false)) false (.v (.beq true (.t 84) (.t 85)))), (.mk (some 87) none false (.v (.pick (.t 83) (.k (.bool true)) (.t 86))))] []) A14_1) A14_2)
def A14_18 : AC := (.seq (.reg [.clr [76]] [(.mk (some 74) none false (.v (.load (.ag [.s, .p]) (.t 1)))), (.mk (some 75) none false (.call (.k (.fn 17 [] [])) [(.t 74)])), (.mk (some 76) none false (.callO (.k (.fn 46 [] [])) [(.t 75)])), (.mk (some 73) none false (.v (.mov (.t 76)))), (.mk (some 77) none false (.v (.ext (.t 73) 0))), (.mk (some 78) none false (.v (.extS (.t 73) 1))), (.mk (some 12) none false (.v (.mov (.t 77)))), (.mk (some 13) none false (.v (.mov (.t 78))))] [.home 76 12]) A14_19)
def A14_16 : AC := (.seq (.seq (.reg [] [(.mk (some 70) none false (.v (.mov (.t 11)))), (.mk (some 71) none false (.v (.mov (.t 10)))), (.mk (some 72) none false (.v (.bin .neq (.t 70) (.t 71))))] []) A14_17) A14_18)
def A14_14 : AC := (.seq (.seq (.reg [] [(.mk (some 68) none false (.v (.mov (.t 11)))), (.mk (some 69) none false (.v (.bin .lss (.t 68) (.k (.int .i64 (.ofNat 0))))))] []) A14_15) A14_16)
def A14_13 : AC := (.seq (.reg [] [(.mk (some 65) none false (.v (.mov (.t 7)))), (.mk (some 66) none false (.v (.mov (.t 11)))), (.mk (some 67) none false (.call (.k (.fn 23 [] [])) [(.t 65), (.t 66)])), (.mk (some 11) none false (.v (.mov (.t 67))))] []) A14_14)
def A14_12 : AC := (.seq (.reg [] [(.mk (some 11) none false (.v (.mov (.k (.int .i64 (.ofNat 1))))))] []) A14_13)
def A14_11 : AC := (.seq (.reg [] [(.mk (some 62) none false (.v (.mov (.t 7)))), (.mk (some 63) none false (.v (.mov (.t 10)))), (.mk (some 64) none false (.mark (.k (.fn 22 [] [])) [(.t 62), (.t 63)])), (.mk (some 10) none false (.v (.mov (.t 64))))] []) A14_12)
def A14_10 : AC := (.seq (.reg [] [(.mk (some 10) none false (.v (.mov (.k (.int .i64 (.ofNat 1))))))] []) A14_11)
def A14_20 : AC := (.cond (.t 40) (.seq (.reg [] [(.mk (some 2) none false (.v (.mov (.k (.bool false)))))] []) .ret) .skip)
def A14_22 : AC := (.cond (.t 45) (.seq (.reg [] [(.mk (some 2) none false (.v (.mov (.k (.bool false)))))] []) .ret) .skip)
def A14_25 : AC := (.seq (.seq (.reg [] [(.mk (some 49) none false (.v (.mov (.t 9)))), (.mk (some 50) none false (.v (.bin .lss (.t 49) (.k (.int .i64 (.ofNat 0)))))), (.mk (some 51) none false (.v (.mov (.t 50)))), (.mk (some 52) (some (51, false)) false (.v (.mov (.t 7)))), (.mk (some 53) (some (51, false)) false (.v (.mov (.t 4)))), (.mk (some 54) (some (51, false)) false (.call (.k (.fn 19 [] [])) [(.t 52), (.t 53)])), (.mk (some 55) (some (51, false)) false (.v (.un .not (.t 54)))), (.mk (some 56) none false (.v (.pick (.t 51) (.k (.bool true)) (.t 55)))), (.mk (some 57) none false (.v (.mov (.t 56)))), (.mk (some 58) (some (57, false)) false (.v (.mov (.t 8)))), (.mk (some 59) (some (57, false)) false (.v (.mov (.t 5)))), (.mk (some 60) (some (57, false)) false (.v (.beq true (.t 58) (.t 59)))), (.mk (some 61) none false (.v (.pick (.t 57) (.k (.bool true)) (.t 60))))] []) A14_9) A14_10)
def A14_24 : AC := (.seq (.reg [] [(.mk (some 46) none false (.v (.load (.ag [.s, .p]) (.t 6)))), (.mk (some 47) none false (.v (.mov (.t 9)))), (.mk (some 48) none false (.mark (.k (.fn 21 [] [])) [(.t 46), (.t 47)])), (.mk (some 9) none false (.v (.mov (.t 48))))] []) A14_25)
def A14_23 : AC := (.seq (.reg [] [(.mk (some 9) none false (.v (.mov (.k (.int .i64 (.ofNat 1))))))] []) A14_24)
def A14_21 : AC := (.seq (.seq (.reg [] [(.mk (some 41) none false (.v (.load (.ag [.s, .p]) (.t 6)))), (.mk (some 42) none false (.v (.load (.ag [.s, .p]) (.t 1)))), (.mk (some 43) none false (.call (.k (.fn 17 [] [])) [(.t 42)])), (.mk (some 44) none false (.call (.k (.fn 20 [] [])) [(.t 41), (.t 43)])), (.mk (some 45) none false (.v (.un .not (.t 44))))] []) A14_22) A14_23)
def A14_29 : AC := (.cond (.t 18) (.seq (.reg [] [(.mk (some 2) none false (.v (.mov (.k (.bool true)))))] []) .ret) .skip)
def A14_33 : AC := (.seq (.seq (.reg [] [(.mk (some 32) none false (.v (.mov (.t 7)))), (.mk (some 33) none false (.v (.mov (.t 4)))), (.mk (some 34) none false (.call (.k (.fn 19 [] [])) [(.t 32), (.t 33)])), (.mk (some 35) none false (.v (.un .not (.t 34)))), (.mk (some 36) none false (.v (.mov (.t 35)))), (.mk (some 37) (some (36, false)) false (.v (.mov (.t 8)))), (.mk (some 38) (some (36, false)) false (.v (.mov (.t 5)))), (.mk (some 39) (some (36, false)) false (.v (.beq true (.t 37) (.t 38)))), (.mk (some 40) none false (.v (.pick (.t 36) (.k (.bool true)) (.t 39))))] []) A14_20) A14_21)
def A14_32 : AC := (.seq (.reg [.clr [29]] [(.mk (some 28) none false (.v (.load (.ag [.s, .p]) (.t 6)))), (.mk (some 29) none false (.callO (.k (.fn 46 [] [])) [(.t 28)])), (.mk (some 27) none false (.v (.mov (.t 29)))), (.mk (some 30) none false (.v (.ext (.t 27) 0))), (.mk (some 31) none false (.v (.extS (.t 27) 1))), (.mk (some 7) none false (.v (.mov (.t 30)))), (.mk (some 8) none false (.v (.mov (.t 31))))] [.home 29 7]) A14_33)
def A14_31 : AC := (.seq (.reg [.clr [26, 6]] [(.mk (some 25) none false (.v (.load (.ag [.s, .p]) (.t 1)))), (.mk (some 26) none false (.callO (.k (.fn 17 [] [])) [(.t 25)])), (.mk (some 6) none false (.alloc (.agg [(.int .i64 (.ofNat 0)), (.sl .nl (.ag [.s, .s]) 0 [])]))), (.mk none none false (.store (.ag [.s, .p]) (.t 6) (.t 26)))] []) A14_32)
def A14_30 : AC := (.seq (.reg [] [(.mk (some 20) none false (.v (.load (.ag [.s, .p]) (.t 1)))), (.mk (some 21) none false (.call (.k (.fn 17 [] [])) [(.t 20)])), (.mk (some 22) none false (.call (.k (.fn 45 [] [])) [(.t 21)])), (.mk (some 19) none false (.v (.mov (.t 22)))), (.mk (some 23) none false (.v (.ext (.t 19) 0))), (.mk (some 24) none false (.v (.extS (.t 19) 1))), (.mk (some 4) none false (.v (.mov (.t 23)))), (.mk (some 5) none false (.v (.mov (.t 24))))] []) A14_31)
def A14_28 : AC := (.seq (.seq (.reg [] [(.mk (some 17) none false (.v (.mov (.t 3)))), (.mk (some 18) none false (.v (.bin .lss (.t 17) (.k (.int .i64 (.ofNat 0))))))] []) A14_29) A14_30)
def A14_27 : AC := (.seq (.reg [] [(.mk (some 14) none false (.v (.load (.ag [.s, .p]) (.t 1)))), (.mk (some 15) none false (.v (.mov (.t 3)))), (.mk (some 16) none false (.call (.k (.fn 15 [] [])) [(.t 14), (.t 15)])), (.mk (some 3) none false (.v (.mov (.t 16))))] []) A14_28)
def A14_26 : AC := (.seq (.reg [] [(.mk (some 3) none false (.v (.mov (.k (.int .i64 (.ofNat 1048576))))))] []) A14_27)
def A14 : AC := (.seq (.reg [.clr [1]] [(.mk (some 1) none false (.box (.t 0))), (.mk (some 2) none false (.v (.mov (.k (.bool false)))))] []) A14_26)
def an14 : List An := [{ id := 0, pre := [.clr [1]], ep := [], lin := [], sp := [] }, { id := 6, pre := [.clr [26, 6]], ep := [], lin := [], sp := [1001] }, { id := 7, pre := [.clr [29]], ep := [.home 29 7], lin := [], sp := [1001] }, { id := 13, pre := [], ep := [], lin := [], sp := [2] }, { id := 17, pre := [], ep := [], lin := [], sp := [2] }, { id := 24, pre := [.clr [76]], ep := [.home 76 12], lin := [], sp := [1002] }]
theorem c14 : cC Try.prog Try.f14.ntmps an14 (Try.f14.body.getD .skip) = some A14 := by kernel_rfl
structure H14 (D : Den) (σ : Sig) (F : Nat) : Prop where
  c15 : ∀ (x0 : (Int × (List (Int × Int)))) (x1 : Int) r, w_szGraph F x0 x1 = some r → D 15 [Enc.enc x0, Enc.enc x1] = some (Enc.enc (r : Int))
  g15 : σ 15 = some (0, false)
  c17 : ∀ (x0 : (Int × (List (Int × Int)))) r, w_toGraph F x0 = some r → D 17 [Enc.enc x0] = some (Enc.enc (r : (Int × (List (Int × Int)))))
  g17 : σ 17 = some (0, true)
  c45 : ∀ (x0 : (Int × (List (Int × Int)))) r, s_BestElimination F x0 = some r → D 45 [Enc.enc x0] = some (.tup [Enc.enc (r.1 : (List Int)), Enc.enc (r.2 : Bool)])
  g45 : σ 45 = some (0, true)
  c17o : ∀ (x0 : (Int × (List (Int × Int)))) r, w_toGraph_o F x0 = some r → D 1000000017 [Enc.enc x0] = some (.agg [(Enc.enc (r.1 : Int)), (encO .sh (r.2 : NL (Int × Int)))])
  g17o : σ 1000000017 = some (1, false)
  c46o : ∀ (x0 : (Int × (List (Int × Int)))) r, i_BestElimination_o F x0 = some r → D 1000000046 [Enc.enc x0] = some (.tup [(encO .sh (r.1 : NL Int)), (Enc.enc (r.2 : Bool))])
  g46o : σ 1000000046 = some (1, false)
  c19 : ∀ (x0 : (List Int)) (x1 : (List Int)) r, w_eqIntS F x0 x1 = some r → D 19 [Enc.enc x0, Enc.enc x1] = some (Enc.enc (r : Bool))
  g19 : σ 19 = some (0, false)
  c20 : ∀ (x0 : (Int × (List (Int × Int)))) (x1 : (Int × (List (Int × Int)))) r, w_eqGraph F x0 x1 = some r → D 20 [Enc.enc x0, Enc.enc x1] = some (Enc.enc (r : Bool))
  g20 : σ 20 = some (0, false)
  c21 : ∀ (x0 : (Og (Int × Int))) (x1 : Int) r, w_markGraph F x0 x1 = some r → D 21 [Arg.arg x0, Enc.enc x1] = some (.tup [Enc.enc (r : Int), .dead])
  g21 : σ 21 = some (pinR, false)
  c22 : ∀ (x0 : (On Int)) (x1 : Int) r, w_markIntS F x0 x1 = some r → D 22 [Arg.arg x0, Enc.enc x1] = some (.tup [Enc.enc (r.1 : Int), encO (.at pinR []) (r.2 : NL Int)])
  g22 : σ 22 = some (pinR, false)
  c23 : ∀ (x0 : (List Int)) (x1 : Int) r, w_heldIntS F x0 x1 = some r → D 23 [Enc.enc x0, Enc.enc x1] = some (Enc.enc (r : Int))
  g23 : σ 23 = some (0, false)
abbrev R14 (r : Bool) : (Nat → V) → Prop := RR Try.prog [.tmp 2] 0 false (Enc.enc (r : Bool))
section
variable {D : Den} {σ : Sig} {F : Nat} {r : Bool}
def w_FnExactBestElimination_j1 (F : Nat) (m_15 : (NL Int)) (r_14 : (Int × NL Int))  (t87_20 : Bool) : Option Bool :=
  bif t87_20 then
    some false
  else
    (w_heldIntS F m_15.list 1).bind fun r_21 =>
    bif decide (r_21 < 0) then
      some false
    else
      bif (r_21 != r_14.1) then
        some false
      else
        some true
theorem t_f14_j1 (H : H14 D σ F) (m_15 : (NL Int)) (r_14 : (Int × NL Int))  (t87_20 : Bool) (s : Nat → V) (hs : Facts [(2, (.bool false)), (7, (encO (.at 7 [0]) (m_15 : NL Int))), (10, (.int .i64 r_14.1)), (87, (.bool t87_20))] s) (h : w_FnExactBestElimination_j1 F m_15 r_14  t87_20 = some r) : Run D σ (R14 r) (.nrm [.sq A14_1, .sq A14_2]) s := by
  unfold w_FnExactBestElimination_j1 at h
  obtain ⟨h2, h7, h10, h87⟩ := hs
  refine .nsq ?_
  refine run_cond (t := t87_20) h87 h (fun h => ?_) (fun h => ?_)
  · refine .seq ?_
    refine run_reg ?_
    refine e_end ?_
    refine g_v0 (.bool false) rfl rfl ?_
    refine g_end ?_
    refine e_end ?_
    refine renew [(2, (.bool false)), (7, (encO (.at 7 [0]) (m_15 : NL Int))), (10, (.int .i64 r_14.1))] ⟨rfl, h7, h10⟩ ?_
    rintro s ⟨h2, h7, h10⟩
    refine .nsq ?_
    refine .ret ?_
    have hr := Option.some.inj h
    subst hr
    exact rrA (res_tmp h2) rfl
  · refine .skip ?_
    refine .nsq ?_
    refine .seq ?_
    refine run_reg ?_
    refine e_end ?_
    refine g_v0 (.int .i64 1) rfl rfl ?_
    refine g_end ?_
    refine e_end ?_
    refine renew [(2, (.bool false)), (7, (encO (.at 7 [0]) (m_15 : NL Int))), (10, (.int .i64 r_14.1)), (11, (.int .i64 1))] ⟨h2, h7, h10, rfl⟩ ?_
    rintro s ⟨h2, h7, h10, h11⟩
    refine .nsq ?_
    refine .seq ?_
    refine run_reg ?_
    refine e_end ?_
    refine g_v (encO (.at 7 [0]) (m_15 : NL Int)) (ev_mov h7 ok_encO) ?_
    refine g_v1 (t := 11) (u := (.int .i64 1)) (.int .i64 1) h11 rfl rfl ?_
    obtain ⟨r_21, E_r_21, h⟩ := bind_some h
    refine g_call (m := 0) (al := false) (r := (Enc.enc (r_21 : Int))) [Enc.enc (m_15.list : (List Int)), Enc.enc (1 : Int)] (ta_cons (v := (encO (.at 7 [0]) (m_15 : NL Int))) rfl ok_encP (erase_encO (o := m_15)) (ta_cons (v := (.int .i64 1)) rfl rfl rfl ta_nil)) (H.c23 _ _ _ E_r_21) H.g23 rfl rfl rfl rfl ?_
    refine g_v1 (t := 90) (u := (.int .i64 r_21)) (.int .i64 r_21) rfl rfl rfl ?_
    refine g_end ?_
    refine e_end ?_
    refine renew [(2, (.bool false)), (10, (.int .i64 r_14.1)), (11, (.int .i64 r_21))] ⟨h2, h10, rfl⟩ ?_
    rintro s ⟨h2, h10, h11⟩
    refine .nsq ?_
    refine .seq ?_
    refine .seq ?_
    refine run_reg ?_
    refine e_end ?_
    refine g_v1 (t := 11) (u := (.int .i64 r_21)) (.int .i64 r_21) h11 rfl rfl ?_
    refine g_v1 (t := 91) (u := (.int .i64 r_21)) (.bool (decide (r_21 < 0))) rfl rfl rfl ?_
    refine g_end ?_
    refine e_end ?_
    refine renew [(2, (.bool false)), (10, (.int .i64 r_14.1)), (11, (.int .i64 r_21)), (92, (.bool (decide (r_21 < 0))))] ⟨h2, h10, h11, rfl⟩ ?_
    rintro s ⟨h2, h10, h11, h92⟩
    refine .nsq ?_
    refine run_cond (t := decide (r_21 < 0)) h92 h (fun h => ?_) (fun h => ?_)
    · refine .seq ?_
      refine run_reg ?_
      refine e_end ?_
      refine g_v0 (.bool false) rfl rfl ?_
      refine g_end ?_
      refine e_end ?_
      refine renew [(2, (.bool false)), (10, (.int .i64 r_14.1)), (11, (.int .i64 r_21))] ⟨rfl, h10, h11⟩ ?_
      rintro s ⟨h2, h10, h11⟩
      refine .nsq ?_
      refine .ret ?_
      have hr := Option.some.inj h
      subst hr
      exact rrA (res_tmp h2) rfl
    · refine .skip ?_
      refine .nsq ?_
      refine .seq ?_
      refine .seq ?_
      refine run_reg ?_
      refine e_end ?_
      refine g_v1 (t := 11) (u := (.int .i64 r_21)) (.int .i64 r_21) h11 rfl rfl ?_
      refine g_v1 (t := 10) (u := (.int .i64 r_14.1)) (.int .i64 r_14.1) h10 rfl rfl ?_
      refine g_v2 (t1 := 93) (t2 := 94) (u1 := (.int .i64 r_21)) (u2 := (.int .i64 r_14.1)) (.bool (r_21 != r_14.1)) rfl rfl rfl rfl ?_
      refine g_end ?_
      refine e_end ?_
      refine renew [(2, (.bool false)), (95, (.bool (r_21 != r_14.1)))] ⟨h2, rfl⟩ ?_
      rintro s ⟨h2, h95⟩
      refine .nsq ?_
      refine run_cond (t := (r_21 != r_14.1)) h95 h (fun h => ?_) (fun h => ?_)
      · refine .seq ?_
        refine run_reg ?_
        refine e_end ?_
        refine g_v0 (.bool false) rfl rfl ?_
        refine g_end ?_
        refine e_end ?_
        refine renew [(2, (.bool false))] rfl ?_
        rintro s h2
        refine .nsq ?_
        refine .ret ?_
        have hr := Option.some.inj h
        subst hr
        exact rrA (res_tmp h2) rfl
      · refine .skip ?_
        refine .nsq ?_
        refine .seq ?_
        refine run_reg ?_
        refine e_end ?_
        refine g_v0 (.bool true) rfl rfl ?_
        refine g_end ?_
        refine e_end ?_
        refine renew [(2, (.bool true))] rfl ?_
        rintro s h2
        refine .nsq ?_
        refine .ret ?_
        have hr := Option.some.inj h
        subst hr
        exact rrA (res_tmp h2) rfl
def w_FnExactBestElimination_j2 (F : Nat) (aG_1 : (Int × (List (Int × Int)))) (r_4 : ((List Int) × Bool)) (r_6 : ((NL Int) × Bool))  (t61_13 : Bool) : Option Bool :=
  bif t61_13 then
    some false
  else
    (w_markIntS F (On.mk r_6.1 : (On Int)) 1).bind fun r_14 =>
    (remark r_6.1 r_14.2).bind fun m_15 =>
    (w_heldIntS F m_15.list 1).bind fun r_16 =>
    bif decide (r_16 < 0) then
      some false
    else
      bif (r_16 != r_14.1) then
        some false
      else
        (w_toGraph F aG_1).bind fun r_17 =>
        (i_BestElimination_o F r_17).bind fun r_18 =>
        (w_eqIntS F r_18.1.list r_4.1).bind fun r_22 =>
        bif (!r_22) then
          w_FnExactBestElimination_j1 F m_15 r_14 true
        else
          w_FnExactBestElimination_j1 F m_15 r_14 (r_18.2 != r_4.2)
theorem t_f14_j2 (H : H14 D σ F) (aG_1 : (Int × (List (Int × Int)))) (r_4 : ((List Int) × Bool)) (r_6 : ((NL Int) × Bool))  (t61_13 : Bool) (s : Nat → V) (hs : Facts [(1, (.ref (.bx 1) 0 [] (.agg [(.int .i64 aG_1.1), (Enc.enc (aG_1.2 : List (Int × Int)))]))), (2, (.bool false)), (4, (Enc.enc (r_4.1 : List Int))), (5, (.bool r_4.2)), (7, (encO (.at 7 [0]) (r_6.1 : NL Int))), (61, (.bool t61_13))] s) (h : w_FnExactBestElimination_j2 F aG_1 r_4 r_6  t61_13 = some r) : Run D σ (R14 r) (.nrm [.sq A14_9, .sq A14_10]) s := by
  unfold w_FnExactBestElimination_j2 at h
  obtain ⟨h1, h2, h4, h5, h7, h61⟩ := hs
  refine .nsq ?_
  refine run_cond (t := t61_13) h61 h (fun h => ?_) (fun h => ?_)
  · refine .seq ?_
    refine run_reg ?_
    refine e_end ?_
    refine g_v0 (.bool false) rfl rfl ?_
    refine g_end ?_
    refine e_end ?_
    refine renew [(1, (.ref (.bx 1) 0 [] (.agg [(.int .i64 aG_1.1), (Enc.enc (aG_1.2 : List (Int × Int)))]))), (2, (.bool false)), (4, (Enc.enc (r_4.1 : List Int))), (5, (.bool r_4.2)), (7, (encO (.at 7 [0]) (r_6.1 : NL Int)))] ⟨h1, rfl, h4, h5, h7⟩ ?_
    rintro s ⟨h1, h2, h4, h5, h7⟩
    refine .nsq ?_
    refine .ret ?_
    have hr := Option.some.inj h
    subst hr
    exact rrA (res_tmp h2) rfl
  · refine .skip ?_
    refine .nsq ?_
    refine .seq ?_
    refine run_reg ?_
    refine e_end ?_
    refine g_v0 (.int .i64 1) rfl rfl ?_
    refine g_end ?_
    refine e_end ?_
    refine renew [(1, (.ref (.bx 1) 0 [] (.agg [(.int .i64 aG_1.1), (Enc.enc (aG_1.2 : List (Int × Int)))]))), (2, (.bool false)), (4, (Enc.enc (r_4.1 : List Int))), (5, (.bool r_4.2)), (7, (encO (.at 7 [0]) (r_6.1 : NL Int))), (10, (.int .i64 1))] ⟨h1, h2, h4, h5, h7, rfl⟩ ?_
    rintro s ⟨h1, h2, h4, h5, h7, h10⟩
    refine .nsq ?_
    refine .seq ?_
    refine run_reg ?_
    refine e_end ?_
    refine g_v (encO (.at 7 [0]) (r_6.1 : NL Int)) (ev_mov h7 ok_encO) ?_
    refine g_v1 (t := 10) (u := (.int .i64 1)) (.int .i64 1) h10 rfl rfl ?_
    obtain ⟨r_14, E_r_14, h⟩ := bind_some h
    obtain ⟨m_15, E_m_15, h⟩ := bind_some h
    refine g_mark (v := (encO (.at 7 [0]) (r_6.1 : NL Int))) rfl (canon_own (o := (r_6.1 : NL Int)) rfl) (rdAll_cons (v := (.int .i64 1)) rfl rfl rdAll_nil) (H.c22 _ _ _ E_r_14) H.g22 rfl rfl (fun s_6 hm_6 => ?_)
    refine g_v1 (t := 64) (u := (.int .i64 r_14.1)) (.int .i64 r_14.1) rfl rfl rfl ?_
    refine g_end ?_
    refine e_end ?_
    refine renew [(1, (.ref (.bx 1) 0 [] (.agg [(.int .i64 aG_1.1), (Enc.enc (aG_1.2 : List (Int × Int)))]))), (2, (.bool false)), (4, (Enc.enc (r_4.1 : List Int))), (5, (.bool r_4.2)), (7, (encO (.at 7 [0]) (m_15 : NL Int))), (10, (.int .i64 r_14.1))] ⟨(show s_6 1 = (.ref (.bx 1) 0 [] (.agg [(.int .i64 aG_1.1), (Enc.enc (aG_1.2 : List (Int × Int)))])) from hm_6 1 (.ref (.bx 1) 0 [] (.agg [(.int .i64 aG_1.1), (Enc.enc (aG_1.2 : List (Int × Int)))])) (.ref (.bx 1) 0 [] (.agg [(.int .i64 aG_1.1), (Enc.enc (aG_1.2 : List (Int × Int)))])) h1 (rem_map rfl (map_bx (killO_ne rfl) (map_agg (maps_cons rfl (maps_cons (Enc.map_enc _ (aG_1.2 : List (Int × Int))) maps_nil)))))), (show s_6 2 = (.bool false) from hm_6 2 (.bool false) (.bool false) h2 (rem_map rfl rfl)), (show s_6 4 = (Enc.enc (r_4.1 : List Int)) from hm_6 4 (Enc.enc (r_4.1 : List Int)) (Enc.enc (r_4.1 : List Int)) h4 (rem_enc (xs := (r_4.1 : List Int)))), (show s_6 5 = (.bool r_4.2) from hm_6 5 (.bool r_4.2) (.bool r_4.2) h5 (rem_map rfl rfl)), (show s_6 7 = (encO (.at 7 [0]) (m_15 : NL Int)) from hm_6 7 (encO (.at 7 [0]) (r_6.1 : NL Int)) (encO (.at 7 [0]) (m_15 : NL Int)) h7 (marked_own (o := (r_6.1 : NL Int)) rfl E_m_15)), rfl⟩ ?_
    rintro s ⟨h1, h2, h4, h5, h7, h10⟩
    refine .nsq ?_
    refine .seq ?_
    refine run_reg ?_
    refine e_end ?_
    refine g_v0 (.int .i64 1) rfl rfl ?_
    refine g_end ?_
    refine e_end ?_
    refine renew [(1, (.ref (.bx 1) 0 [] (.agg [(.int .i64 aG_1.1), (Enc.enc (aG_1.2 : List (Int × Int)))]))), (2, (.bool false)), (4, (Enc.enc (r_4.1 : List Int))), (5, (.bool r_4.2)), (7, (encO (.at 7 [0]) (m_15 : NL Int))), (10, (.int .i64 r_14.1)), (11, (.int .i64 1))] ⟨h1, h2, h4, h5, h7, h10, rfl⟩ ?_
    rintro s ⟨h1, h2, h4, h5, h7, h10, h11⟩
    refine .nsq ?_
    refine .seq ?_
    refine run_reg ?_
    refine e_end ?_
    refine g_v (encO (.at 7 [0]) (m_15 : NL Int)) (ev_mov h7 ok_encO) ?_
    refine g_v1 (t := 11) (u := (.int .i64 1)) (.int .i64 1) h11 rfl rfl ?_
    obtain ⟨r_16, E_r_16, h⟩ := bind_some h
    refine g_call (m := 0) (al := false) (r := (Enc.enc (r_16 : Int))) [Enc.enc (m_15.list : (List Int)), Enc.enc (1 : Int)] (ta_cons (v := (encO (.at 7 [0]) (m_15 : NL Int))) rfl ok_encP (erase_encO (o := m_15)) (ta_cons (v := (.int .i64 1)) rfl rfl rfl ta_nil)) (H.c23 _ _ _ E_r_16) H.g23 rfl rfl rfl rfl ?_
    refine g_v1 (t := 67) (u := (.int .i64 r_16)) (.int .i64 r_16) rfl rfl rfl ?_
    refine g_end ?_
    refine e_end ?_
    refine renew [(1, (.ref (.bx 1) 0 [] (.agg [(.int .i64 aG_1.1), (Enc.enc (aG_1.2 : List (Int × Int)))]))), (2, (.bool false)), (4, (Enc.enc (r_4.1 : List Int))), (5, (.bool r_4.2)), (7, (encO (.at 7 [0]) (m_15 : NL Int))), (10, (.int .i64 r_14.1)), (11, (.int .i64 r_16))] ⟨h1, h2, h4, h5, h7, h10, rfl⟩ ?_
    rintro s ⟨h1, h2, h4, h5, h7, h10, h11⟩
    refine .nsq ?_
    refine .seq ?_
    refine .seq ?_
    refine run_reg ?_
    refine e_end ?_
    refine g_v1 (t := 11) (u := (.int .i64 r_16)) (.int .i64 r_16) h11 rfl rfl ?_
    refine g_v1 (t := 68) (u := (.int .i64 r_16)) (.bool (decide (r_16 < 0))) rfl rfl rfl ?_
    refine g_end ?_
    refine e_end ?_
    refine renew [(1, (.ref (.bx 1) 0 [] (.agg [(.int .i64 aG_1.1), (Enc.enc (aG_1.2 : List (Int × Int)))]))), (2, (.bool false)), (4, (Enc.enc (r_4.1 : List Int))), (5, (.bool r_4.2)), (7, (encO (.at 7 [0]) (m_15 : NL Int))), (10, (.int .i64 r_14.1)), (11, (.int .i64 r_16)), (69, (.bool (decide (r_16 < 0))))] ⟨h1, h2, h4, h5, h7, h10, h11, rfl⟩ ?_
    rintro s ⟨h1, h2, h4, h5, h7, h10, h11, h69⟩
    refine .nsq ?_
    refine run_cond (t := decide (r_16 < 0)) h69 h (fun h => ?_) (fun h => ?_)
    · refine .seq ?_
      refine run_reg ?_
      refine e_end ?_
      refine g_v0 (.bool false) rfl rfl ?_
      refine g_end ?_
      refine e_end ?_
      refine renew [(1, (.ref (.bx 1) 0 [] (.agg [(.int .i64 aG_1.1), (Enc.enc (aG_1.2 : List (Int × Int)))]))), (2, (.bool false)), (4, (Enc.enc (r_4.1 : List Int))), (5, (.bool r_4.2)), (7, (encO (.at 7 [0]) (m_15 : NL Int))), (10, (.int .i64 r_14.1)), (11, (.int .i64 r_16))] ⟨h1, rfl, h4, h5, h7, h10, h11⟩ ?_
      rintro s ⟨h1, h2, h4, h5, h7, h10, h11⟩
      refine .nsq ?_
      refine .ret ?_
      have hr := Option.some.inj h
      subst hr
      exact rrA (res_tmp h2) rfl
    · refine .skip ?_
      refine .nsq ?_
      refine .seq ?_
      refine .seq ?_
      refine run_reg ?_
      refine e_end ?_
      refine g_v1 (t := 11) (u := (.int .i64 r_16)) (.int .i64 r_16) h11 rfl rfl ?_
      refine g_v1 (t := 10) (u := (.int .i64 r_14.1)) (.int .i64 r_14.1) h10 rfl rfl ?_
      refine g_v2 (t1 := 70) (t2 := 71) (u1 := (.int .i64 r_16)) (u2 := (.int .i64 r_14.1)) (.bool (r_16 != r_14.1)) rfl rfl rfl rfl ?_
      refine g_end ?_
      refine e_end ?_
      refine renew [(1, (.ref (.bx 1) 0 [] (.agg [(.int .i64 aG_1.1), (Enc.enc (aG_1.2 : List (Int × Int)))]))), (2, (.bool false)), (4, (Enc.enc (r_4.1 : List Int))), (5, (.bool r_4.2)), (7, (encO (.at 7 [0]) (m_15 : NL Int))), (10, (.int .i64 r_14.1)), (72, (.bool (r_16 != r_14.1)))] ⟨h1, h2, h4, h5, h7, h10, rfl⟩ ?_
      rintro s ⟨h1, h2, h4, h5, h7, h10, h72⟩
      refine .nsq ?_
      refine run_cond (t := (r_16 != r_14.1)) h72 h (fun h => ?_) (fun h => ?_)
      · refine .seq ?_
        refine run_reg ?_
        refine e_end ?_
        refine g_v0 (.bool false) rfl rfl ?_
        refine g_end ?_
        refine e_end ?_
        refine renew [(1, (.ref (.bx 1) 0 [] (.agg [(.int .i64 aG_1.1), (Enc.enc (aG_1.2 : List (Int × Int)))]))), (2, (.bool false)), (4, (Enc.enc (r_4.1 : List Int))), (5, (.bool r_4.2)), (7, (encO (.at 7 [0]) (m_15 : NL Int))), (10, (.int .i64 r_14.1))] ⟨h1, rfl, h4, h5, h7, h10⟩ ?_
        rintro s ⟨h1, h2, h4, h5, h7, h10⟩
        refine .nsq ?_
        refine .ret ?_
        have hr := Option.some.inj h
        subst hr
        exact rrA (res_tmp h2) rfl
      · refine .skip ?_
        refine .nsq ?_
        refine .seq ?_
        refine run_reg ?_
        refine e_clr ?_
        refine e_end ?_
        refine g_v1 (t := 1) (u := (.ref (.bx 1) 0 [] (.agg [(.int .i64 aG_1.1), (Enc.enc (aG_1.2 : List (Int × Int)))]))) (.agg [(.int .i64 aG_1.1), (Enc.enc (aG_1.2 : List (Int × Int)))]) (keep_clear (s := s) (pk := [76]) h1 rfl (map_bx rfl (map_agg (maps_cons rfl (maps_cons (Enc.map_enc _ (aG_1.2 : List (Int × Int))) maps_nil))))) rfl rfl ?_
        obtain ⟨r_17, E_r_17, h⟩ := bind_some h
        refine g_call (m := 0) (al := true) (r := (Enc.enc (r_17 : (Int × (List (Int × Int)))))) [Enc.enc (aG_1 : (Int × (List (Int × Int))))] (ta_cons (v := (.agg [(.int .i64 aG_1.1), (Enc.enc (aG_1.2 : List (Int × Int)))])) rfl rfl (Enc.erase_enc (aG_1 : (Int × (List (Int × Int))))) ta_nil) (H.c17 _ _ E_r_17) H.g17 (hal_of (ht_cons (v := (.agg [(.int .i64 aG_1.1), (Enc.enc (aG_1.2 : List (Int × Int)))])) rfl rfl rfl ht_nil)) rfl rfl rfl ?_
        obtain ⟨r_18, E_r_18, h⟩ := bind_some h
        refine g_callO (m := 1) (al := false) (r := (.tup [(encO .sh (r_18.1 : NL Int)), (Enc.enc (r_18.2 : Bool))])) (v := (.tup [(encO (.at 76 [0]) (r_18.1 : NL Int)), (.bool r_18.2)])) (kk := 1000000046) [Enc.enc (r_17 : (Int × (List (Int × Int))))] (ta_cons (v := (.agg [(.int .i64 r_17.1), (Enc.enc (r_17.2 : List (Int × Int)))])) rfl rfl (Enc.erase_enc (r_17 : (Int × (List (Int × Int))))) ta_nil) (H.c46o _ _ E_r_18) H.g46o rfl (toks_tup (tokss_cons toks_encS (tokss_cons rfl tokss_nil))) (tag_tup (tags_cons tag_encO (tags_cons rfl tags_nil))) rfl (gone_clear (s := s) (pk := [76]) (t := 76) rfl) ?_
        refine g_v1 (t := 76) (u := (.tup [(encO (.at 76 [0]) (r_18.1 : NL Int)), (.bool r_18.2)])) (.tup [(encO (.at 76 [0]) (r_18.1 : NL Int)), (.bool r_18.2)]) rfl rfl rfl ?_
        refine g_v (encO (.at 76 [0]) (r_18.1 : NL Int)) (ev_extN (v := (encO (.at 76 [0]) (r_18.1 : NL Int))) rfl rfl ok_encP) ?_
        refine g_v1 (t := 73) (u := (.tup [(encO (.at 76 [0]) (r_18.1 : NL Int)), (.bool r_18.2)])) (.bool r_18.2) rfl rfl rfl ?_
        refine g_v (encO (.at 76 [0]) (r_18.1 : NL Int)) (ev_mov rfl ok_encO) ?_
        refine g_v1 (t := 78) (u := (.bool r_18.2)) (.bool r_18.2) rfl rfl rfl ?_
        refine g_end ?_
        refine e_home (r := 76) (x := 12) (v := (encO (.at 76 [0]) (r_18.1 : NL Int))) (by exact rfl) ok_encO (fun s_8 hg_8 => ?_)
        refine e_end ?_
        refine renew [(2, (.bool false)), (4, (Enc.enc (r_4.1 : List Int))), (5, (.bool r_4.2)), (7, (encO (.at 7 [0]) (m_15 : NL Int))), (10, (.int .i64 r_14.1)), (12, (encO (.at 12 [0]) (r_18.1 : NL Int))), (13, (.bool r_18.2))] ⟨(hg_8 2 (.bool false) (.bool false) (keep_clear (s := s) (pk := [76]) h2 rfl rfl) rfl), (hg_8 4 (Enc.enc (r_4.1 : List Int)) (Enc.enc (r_4.1 : List Int)) (keep_clear (s := s) (pk := [76]) h4 rfl (Enc.map_enc _ (r_4.1 : List Int))) (Enc.map_enc _ (r_4.1 : List Int))), (hg_8 5 (.bool r_4.2) (.bool r_4.2) (keep_clear (s := s) (pk := [76]) h5 rfl rfl) rfl), (hg_8 7 (encO (.at 7 [0]) (m_15 : NL Int)) (encO (.at 7 [0]) (m_15 : NL Int)) (keep_clear (s := s) (pk := [76]) h7 rfl (map_encO (r := 7) (p := [0]) rfl rfl)) (map_encO (r := 7) (p := [0]) rfl rfl)), (hg_8 10 (.int .i64 r_14.1) (.int .i64 r_14.1) (keep_clear (s := s) (pk := [76]) h10 rfl rfl) rfl), (hg_8 12 (encO (.at 76 [0]) (r_18.1 : NL Int)) (encO (.at 12 [0]) (r_18.1 : NL Int)) rfl (map_encO (r := 76) (p := [0]) rfl rfl)), (hg_8 13 (.bool r_18.2) (.bool r_18.2) rfl rfl)⟩ ?_
        rintro s ⟨h2, h4, h5, h7, h10, h12, h13⟩
        refine .nsq ?_
        refine .seq ?_
        refine .seq ?_
        refine run_reg ?_
        refine e_end ?_
        refine g_v (encO (.at 12 [0]) (r_18.1 : NL Int)) (ev_mov h12 ok_encO) ?_
        refine g_v1 (t := 4) (u := (Enc.enc (r_4.1 : List Int))) (Enc.enc (r_4.1 : List Int)) h4 rfl rfl ?_
        obtain ⟨r_22, E_r_22, h⟩ := bind_some h
        refine g_call (m := 0) (al := false) (r := (Enc.enc (r_22 : Bool))) [Enc.enc (r_18.1.list : (List Int)), Enc.enc (r_4.1 : (List Int))] (ta_cons (v := (encO (.at 12 [0]) (r_18.1 : NL Int))) rfl ok_encP (erase_encO (o := r_18.1)) (ta_cons (v := (Enc.enc (r_4.1 : List Int))) rfl rfl (Enc.erase_enc (r_4.1 : (List Int))) ta_nil)) (H.c19 _ _ _ E_r_22) H.g19 rfl rfl rfl rfl ?_
        refine g_v1 (t := 81) (u := (.bool r_22)) (.bool (!r_22)) rfl rfl rfl ?_
        refine g_v1 (t := 82) (u := (.bool (!r_22))) (.bool (!r_22)) rfl rfl rfl ?_
        refine split_on (c := (!r_22)) h (fun hg5 h => ?_) (fun hg5 h => ?_)
        · refine g_no (Eq.trans (b := .bool (!r_22)) rfl (congrArg V.bool hg5)) ?_
          refine g_no (Eq.trans (b := .bool (!r_22)) rfl (congrArg V.bool hg5)) ?_
          refine g_no (Eq.trans (b := .bool (!r_22)) rfl (congrArg V.bool hg5)) ?_
          refine g_v2 (t1 := 83) (t2 := 86) (u1 := (.bool true)) (u2 := (.tup [])) (.bool true) (Eq.trans (b := .bool (!r_22)) rfl (congrArg V.bool hg5)) rfl rfl rfl ?_
          refine g_end ?_
          refine e_end ?_
          refine renew [(2, (.bool false)), (7, (encO (.at 7 [0]) (m_15 : NL Int))), (10, (.int .i64 r_14.1)), (87, (.bool true))] ⟨h2, h7, h10, rfl⟩ ?_
          rintro s ⟨h2, h7, h10, h87⟩
          exact t_f14_j1 H m_15 r_14 true _ ⟨h2, h7, h10, h87⟩ h
        · refine g_yes (Eq.trans (b := .bool (!r_22)) rfl (congrArg V.bool hg5)) (g_v1 (t := 13) (u := (.bool r_18.2)) (.bool r_18.2) h13 rfl rfl ?_)
          refine g_yes (Eq.trans (b := .bool (!r_22)) rfl (congrArg V.bool hg5)) (g_v1 (t := 5) (u := (.bool r_4.2)) (.bool r_4.2) h5 rfl rfl ?_)
          refine g_yes (Eq.trans (b := .bool (!r_22)) rfl (congrArg V.bool hg5)) (g_v2 (t1 := 84) (t2 := 85) (u1 := (.bool r_18.2)) (u2 := (.bool r_4.2)) (.bool (r_18.2 != r_4.2)) rfl rfl rfl rfl ?_)
          refine g_v2 (t1 := 83) (t2 := 86) (u1 := (.bool false)) (u2 := (.bool (r_18.2 != r_4.2))) (.bool (r_18.2 != r_4.2)) (Eq.trans (b := .bool (!r_22)) rfl (congrArg V.bool hg5)) rfl rfl rfl ?_
          refine g_end ?_
          refine e_end ?_
          refine renew [(2, (.bool false)), (7, (encO (.at 7 [0]) (m_15 : NL Int))), (10, (.int .i64 r_14.1)), (87, (.bool (r_18.2 != r_4.2)))] ⟨h2, h7, h10, rfl⟩ ?_
          rintro s ⟨h2, h7, h10, h87⟩
          exact t_f14_j1 H m_15 r_14 (r_18.2 != r_4.2) _ ⟨h2, h7, h10, h87⟩ h
def w_FnExactBestElimination_j3 (F : Nat) (aG_1 : (Int × (List (Int × Int)))) (r_4 : ((List Int) × Bool)) (r_5 : (Int × (NL (Int × Int)))) (r_6 : ((NL Int) × Bool))  (t40_8 : Bool) : Option Bool :=
  bif t40_8 then
    some false
  else
    (w_toGraph F aG_1).bind fun r_9 =>
    (w_eqGraph F (r_5.1, r_5.2.list) r_9).bind fun r_10 =>
    bif (!r_10) then
      some false
    else
      (w_markGraph F (Og.mk r_5.1 r_5.2 : (Og (Int × Int))) 1).bind fun r_11 =>
      bif decide (r_11 < 0) then
        w_FnExactBestElimination_j2 F aG_1 r_4 r_6 true
      else
        (w_eqIntS F r_6.1.list r_4.1).bind fun r_23 =>
        bif (!r_23) then
          w_FnExactBestElimination_j2 F aG_1 r_4 r_6 true
        else
          w_FnExactBestElimination_j2 F aG_1 r_4 r_6 (r_6.2 != r_4.2)
theorem t_f14_j3 (H : H14 D σ F) (aG_1 : (Int × (List (Int × Int)))) (r_4 : ((List Int) × Bool)) (r_5 : (Int × (NL (Int × Int)))) (r_6 : ((NL Int) × Bool))  (t40_8 : Bool) (s : Nat → V) (hs : Facts [(1, (.ref (.bx 1) 0 [] (.agg [(.int .i64 aG_1.1), (Enc.enc (aG_1.2 : List (Int × Int)))]))), (2, (.bool false)), (4, (Enc.enc (r_4.1 : List Int))), (5, (.bool r_4.2)), (6, (.ref (.bx 6) 0 [] (.agg [(.int .i64 r_5.1), (encO (.at 26 [1]) (r_5.2 : NL (Int × Int)))]))), (7, (encO (.at 7 [0]) (r_6.1 : NL Int))), (8, (.bool r_6.2)), (40, (.bool t40_8))] s) (h : w_FnExactBestElimination_j3 F aG_1 r_4 r_5 r_6  t40_8 = some r) : Run D σ (R14 r) (.nrm [.sq A14_20, .sq A14_21]) s := by
  unfold w_FnExactBestElimination_j3 at h
  obtain ⟨h1, h2, h4, h5, h6, h7, h8, h40⟩ := hs
  refine .nsq ?_
  refine run_cond (t := t40_8) h40 h (fun h => ?_) (fun h => ?_)
  · refine .seq ?_
    refine run_reg ?_
    refine e_end ?_
    refine g_v0 (.bool false) rfl rfl ?_
    refine g_end ?_
    refine e_end ?_
    refine renew [(1, (.ref (.bx 1) 0 [] (.agg [(.int .i64 aG_1.1), (Enc.enc (aG_1.2 : List (Int × Int)))]))), (2, (.bool false)), (4, (Enc.enc (r_4.1 : List Int))), (5, (.bool r_4.2)), (6, (.ref (.bx 6) 0 [] (.agg [(.int .i64 r_5.1), (encO (.at 26 [1]) (r_5.2 : NL (Int × Int)))]))), (7, (encO (.at 7 [0]) (r_6.1 : NL Int))), (8, (.bool r_6.2))] ⟨h1, rfl, h4, h5, h6, h7, h8⟩ ?_
    rintro s ⟨h1, h2, h4, h5, h6, h7, h8⟩
    refine .nsq ?_
    refine .ret ?_
    have hr := Option.some.inj h
    subst hr
    exact rrA (res_tmp h2) rfl
  · refine .skip ?_
    refine .nsq ?_
    refine .seq ?_
    refine .seq ?_
    refine run_reg ?_
    refine e_end ?_
    refine g_v (.agg [(.int .i64 r_5.1), (encO (.at 26 [1]) (r_5.2 : NL (Int × Int)))]) (ev_loadN (c := (.agg [(.int .i64 r_5.1), (encO (.at 26 [1]) (r_5.2 : NL (Int × Int)))])) h6 (by simp [V.shape, V.shapes, shape_encP, Sh.beq, Sh.beqs])) ?_
    refine g_v1 (t := 1) (u := (.ref (.bx 1) 0 [] (.agg [(.int .i64 aG_1.1), (Enc.enc (aG_1.2 : List (Int × Int)))]))) (.agg [(.int .i64 aG_1.1), (Enc.enc (aG_1.2 : List (Int × Int)))]) h1 rfl rfl ?_
    obtain ⟨r_9, E_r_9, h⟩ := bind_some h
    refine g_call (m := 0) (al := true) (r := (Enc.enc (r_9 : (Int × (List (Int × Int)))))) [Enc.enc (aG_1 : (Int × (List (Int × Int))))] (ta_cons (v := (.agg [(.int .i64 aG_1.1), (Enc.enc (aG_1.2 : List (Int × Int)))])) rfl rfl (Enc.erase_enc (aG_1 : (Int × (List (Int × Int))))) ta_nil) (H.c17 _ _ E_r_9) H.g17 (hal_of (ht_cons (v := (.agg [(.int .i64 aG_1.1), (Enc.enc (aG_1.2 : List (Int × Int)))])) rfl rfl rfl ht_nil)) rfl rfl rfl ?_
    obtain ⟨r_10, E_r_10, h⟩ := bind_some h
    refine g_call (m := 0) (al := false) (r := (Enc.enc (r_10 : Bool))) [Enc.enc ((r_5.1, r_5.2.list) : (Int × (List (Int × Int)))), Enc.enc (r_9 : (Int × (List (Int × Int))))] (ta_cons (v := (.agg [(.int .i64 r_5.1), (encO (.at 26 [1]) (r_5.2 : NL (Int × Int)))])) rfl rfl (erase_agg (erases_cons rfl (erases_cons (erase_encO (o := r_5.2)) erases_nil))) (ta_cons (v := (.agg [(.int .i64 r_9.1), (Enc.enc (r_9.2 : List (Int × Int)))])) rfl rfl (Enc.erase_enc (r_9 : (Int × (List (Int × Int))))) ta_nil)) (H.c20 _ _ _ E_r_10) H.g20 rfl rfl rfl rfl ?_
    refine g_v1 (t := 44) (u := (.bool r_10)) (.bool (!r_10)) rfl rfl rfl ?_
    refine g_end ?_
    refine e_end ?_
    refine renew [(1, (.ref (.bx 1) 0 [] (.agg [(.int .i64 aG_1.1), (Enc.enc (aG_1.2 : List (Int × Int)))]))), (2, (.bool false)), (4, (Enc.enc (r_4.1 : List Int))), (5, (.bool r_4.2)), (6, (.ref (.bx 6) 0 [] (.agg [(.int .i64 r_5.1), (encO (.at 26 [1]) (r_5.2 : NL (Int × Int)))]))), (7, (encO (.at 7 [0]) (r_6.1 : NL Int))), (8, (.bool r_6.2)), (45, (.bool (!r_10)))] ⟨h1, h2, h4, h5, h6, h7, h8, rfl⟩ ?_
    rintro s ⟨h1, h2, h4, h5, h6, h7, h8, h45⟩
    refine .nsq ?_
    refine run_cond (t := (!r_10)) h45 h (fun h => ?_) (fun h => ?_)
    · refine .seq ?_
      refine run_reg ?_
      refine e_end ?_
      refine g_v0 (.bool false) rfl rfl ?_
      refine g_end ?_
      refine e_end ?_
      refine renew [(1, (.ref (.bx 1) 0 [] (.agg [(.int .i64 aG_1.1), (Enc.enc (aG_1.2 : List (Int × Int)))]))), (2, (.bool false)), (4, (Enc.enc (r_4.1 : List Int))), (5, (.bool r_4.2)), (6, (.ref (.bx 6) 0 [] (.agg [(.int .i64 r_5.1), (encO (.at 26 [1]) (r_5.2 : NL (Int × Int)))]))), (7, (encO (.at 7 [0]) (r_6.1 : NL Int))), (8, (.bool r_6.2))] ⟨h1, rfl, h4, h5, h6, h7, h8⟩ ?_
      rintro s ⟨h1, h2, h4, h5, h6, h7, h8⟩
      refine .nsq ?_
      refine .ret ?_
      have hr := Option.some.inj h
      subst hr
      exact rrA (res_tmp h2) rfl
    · refine .skip ?_
      refine .nsq ?_
      refine .seq ?_
      refine run_reg ?_
      refine e_end ?_
      refine g_v0 (.int .i64 1) rfl rfl ?_
      refine g_end ?_
      refine e_end ?_
      refine renew [(1, (.ref (.bx 1) 0 [] (.agg [(.int .i64 aG_1.1), (Enc.enc (aG_1.2 : List (Int × Int)))]))), (2, (.bool false)), (4, (Enc.enc (r_4.1 : List Int))), (5, (.bool r_4.2)), (6, (.ref (.bx 6) 0 [] (.agg [(.int .i64 r_5.1), (encO (.at 26 [1]) (r_5.2 : NL (Int × Int)))]))), (7, (encO (.at 7 [0]) (r_6.1 : NL Int))), (8, (.bool r_6.2)), (9, (.int .i64 1))] ⟨h1, h2, h4, h5, h6, h7, h8, rfl⟩ ?_
      rintro s ⟨h1, h2, h4, h5, h6, h7, h8, h9⟩
      refine .nsq ?_
      refine .seq ?_
      refine run_reg ?_
      refine e_end ?_
      refine g_v (.agg [(.int .i64 r_5.1), (encO (.at 26 [1]) (r_5.2 : NL (Int × Int)))]) (ev_loadN (c := (.agg [(.int .i64 r_5.1), (encO (.at 26 [1]) (r_5.2 : NL (Int × Int)))])) h6 (by simp [V.shape, V.shapes, shape_encP, Sh.beq, Sh.beqs])) ?_
      refine g_v1 (t := 9) (u := (.int .i64 1)) (.int .i64 1) h9 rfl rfl ?_
      obtain ⟨r_11, E_r_11, h⟩ := bind_some h
      refine g_mark (v := (.agg [(.int .i64 r_5.1), (encO (.at 26 [1]) (r_5.2 : NL (Int × Int)))])) rfl (canon_agg (a := r_5.1) (o := (r_5.2 : NL (Int × Int))) rfl) (rdAll_cons (v := (.int .i64 1)) rfl rfl rdAll_nil) (H.c21 _ _ _ E_r_11) H.g21 rfl rfl (fun s_5 hm_5 => ?_)
      refine g_v1 (t := 48) (u := (.int .i64 r_11)) (.int .i64 r_11) rfl rfl rfl ?_
      refine g_end ?_
      refine e_end ?_
      refine renew [(1, (.ref (.bx 1) 0 [] (.agg [(.int .i64 aG_1.1), (Enc.enc (aG_1.2 : List (Int × Int)))]))), (2, (.bool false)), (4, (Enc.enc (r_4.1 : List Int))), (5, (.bool r_4.2)), (7, (encO (.at 7 [0]) (r_6.1 : NL Int))), (8, (.bool r_6.2)), (9, (.int .i64 r_11))] ⟨(show s_5 1 = (.ref (.bx 1) 0 [] (.agg [(.int .i64 aG_1.1), (Enc.enc (aG_1.2 : List (Int × Int)))])) from hm_5 1 (.ref (.bx 1) 0 [] (.agg [(.int .i64 aG_1.1), (Enc.enc (aG_1.2 : List (Int × Int)))])) (.ref (.bx 1) 0 [] (.agg [(.int .i64 aG_1.1), (Enc.enc (aG_1.2 : List (Int × Int)))])) h1 (rem_map rfl (map_bx (killO_ne rfl) (map_agg (maps_cons rfl (maps_cons (Enc.map_enc _ (aG_1.2 : List (Int × Int))) maps_nil)))))), (show s_5 2 = (.bool false) from hm_5 2 (.bool false) (.bool false) h2 (rem_map rfl rfl)), (show s_5 4 = (Enc.enc (r_4.1 : List Int)) from hm_5 4 (Enc.enc (r_4.1 : List Int)) (Enc.enc (r_4.1 : List Int)) h4 (rem_enc (xs := (r_4.1 : List Int)))), (show s_5 5 = (.bool r_4.2) from hm_5 5 (.bool r_4.2) (.bool r_4.2) h5 (rem_map rfl rfl)), (show s_5 7 = (encO (.at 7 [0]) (r_6.1 : NL Int)) from hm_5 7 (encO (.at 7 [0]) (r_6.1 : NL Int)) (encO (.at 7 [0]) (r_6.1 : NL Int)) h7 (rem_own (r := 7) (p := [0]) (o := (r_6.1 : NL Int)) rfl rfl)), (show s_5 8 = (.bool r_6.2) from hm_5 8 (.bool r_6.2) (.bool r_6.2) h8 (rem_map rfl rfl)), rfl⟩ ?_
      rintro s ⟨h1, h2, h4, h5, h7, h8, h9⟩
      refine .nsq ?_
      refine .seq ?_
      refine .seq ?_
      refine run_reg ?_
      refine e_end ?_
      refine g_v1 (t := 9) (u := (.int .i64 r_11)) (.int .i64 r_11) h9 rfl rfl ?_
      refine g_v1 (t := 49) (u := (.int .i64 r_11)) (.bool (decide (r_11 < 0))) rfl rfl rfl ?_
      refine g_v1 (t := 50) (u := (.bool (decide (r_11 < 0)))) (.bool (decide (r_11 < 0))) rfl rfl rfl ?_
      refine split_on (c := decide (r_11 < 0)) h (fun hg3 h => ?_) (fun hg3 h => ?_)
      · refine g_no (Eq.trans (b := .bool (decide (r_11 < 0))) rfl (congrArg V.bool hg3)) ?_
        refine g_no (Eq.trans (b := .bool (decide (r_11 < 0))) rfl (congrArg V.bool hg3)) ?_
        refine g_no (Eq.trans (b := .bool (decide (r_11 < 0))) rfl (congrArg V.bool hg3)) ?_
        refine g_no (Eq.trans (b := .bool (decide (r_11 < 0))) rfl (congrArg V.bool hg3)) ?_
        refine g_v2 (t1 := 51) (t2 := 55) (u1 := (.bool true)) (u2 := (.tup [])) (.bool true) (Eq.trans (b := .bool (decide (r_11 < 0))) rfl (congrArg V.bool hg3)) rfl rfl rfl ?_
        refine g_v1 (t := 56) (u := (.bool true)) (.bool true) rfl rfl rfl ?_
        refine g_no rfl ?_
        refine g_no rfl ?_
        refine g_no rfl ?_
        refine g_v2 (t1 := 57) (t2 := 60) (u1 := (.bool true)) (u2 := (.tup [])) (.bool true) rfl rfl rfl rfl ?_
        refine g_end ?_
        refine e_end ?_
        refine renew [(1, (.ref (.bx 1) 0 [] (.agg [(.int .i64 aG_1.1), (Enc.enc (aG_1.2 : List (Int × Int)))]))), (2, (.bool false)), (4, (Enc.enc (r_4.1 : List Int))), (5, (.bool r_4.2)), (7, (encO (.at 7 [0]) (r_6.1 : NL Int))), (61, (.bool true))] ⟨h1, h2, h4, h5, h7, rfl⟩ ?_
        rintro s ⟨h1, h2, h4, h5, h7, h61⟩
        exact t_f14_j2 H aG_1 r_4 r_6 true _ ⟨h1, h2, h4, h5, h7, h61⟩ h
      · refine g_yes (Eq.trans (b := .bool (decide (r_11 < 0))) rfl (congrArg V.bool hg3)) (g_v (encO (.at 7 [0]) (r_6.1 : NL Int)) (ev_mov h7 ok_encO) ?_)
        refine g_yes (Eq.trans (b := .bool (decide (r_11 < 0))) rfl (congrArg V.bool hg3)) (g_v1 (t := 4) (u := (Enc.enc (r_4.1 : List Int))) (Enc.enc (r_4.1 : List Int)) h4 rfl rfl ?_)
        obtain ⟨r_23, E_r_23, h⟩ := bind_some h
        refine g_yes (Eq.trans (b := .bool (decide (r_11 < 0))) rfl (congrArg V.bool hg3)) (g_call (m := 0) (al := false) (r := (Enc.enc (r_23 : Bool))) [Enc.enc (r_6.1.list : (List Int)), Enc.enc (r_4.1 : (List Int))] (ta_cons (v := (encO (.at 7 [0]) (r_6.1 : NL Int))) rfl ok_encP (erase_encO (o := r_6.1)) (ta_cons (v := (Enc.enc (r_4.1 : List Int))) rfl rfl (Enc.erase_enc (r_4.1 : (List Int))) ta_nil)) (H.c19 _ _ _ E_r_23) H.g19 rfl rfl rfl rfl ?_)
        refine g_yes (Eq.trans (b := .bool (decide (r_11 < 0))) rfl (congrArg V.bool hg3)) (g_v1 (t := 54) (u := (.bool r_23)) (.bool (!r_23)) rfl rfl rfl ?_)
        refine g_v2 (t1 := 51) (t2 := 55) (u1 := (.bool false)) (u2 := (.bool (!r_23))) (.bool (!r_23)) (Eq.trans (b := .bool (decide (r_11 < 0))) rfl (congrArg V.bool hg3)) rfl rfl rfl ?_
        refine g_v1 (t := 56) (u := (.bool (!r_23))) (.bool (!r_23)) rfl rfl rfl ?_
        refine split_on (c := (!r_23)) h (fun hg9 h => ?_) (fun hg9 h => ?_)
        · refine g_no (Eq.trans (b := .bool (!r_23)) rfl (congrArg V.bool hg9)) ?_
          refine g_no (Eq.trans (b := .bool (!r_23)) rfl (congrArg V.bool hg9)) ?_
          refine g_no (Eq.trans (b := .bool (!r_23)) rfl (congrArg V.bool hg9)) ?_
          refine g_v2 (t1 := 57) (t2 := 60) (u1 := (.bool true)) (u2 := (.tup [])) (.bool true) (Eq.trans (b := .bool (!r_23)) rfl (congrArg V.bool hg9)) rfl rfl rfl ?_
          refine g_end ?_
          refine e_end ?_
          refine renew [(1, (.ref (.bx 1) 0 [] (.agg [(.int .i64 aG_1.1), (Enc.enc (aG_1.2 : List (Int × Int)))]))), (2, (.bool false)), (4, (Enc.enc (r_4.1 : List Int))), (5, (.bool r_4.2)), (7, (encO (.at 7 [0]) (r_6.1 : NL Int))), (61, (.bool true))] ⟨h1, h2, h4, h5, h7, rfl⟩ ?_
          rintro s ⟨h1, h2, h4, h5, h7, h61⟩
          exact t_f14_j2 H aG_1 r_4 r_6 true _ ⟨h1, h2, h4, h5, h7, h61⟩ h
        · refine g_yes (Eq.trans (b := .bool (!r_23)) rfl (congrArg V.bool hg9)) (g_v1 (t := 8) (u := (.bool r_6.2)) (.bool r_6.2) h8 rfl rfl ?_)
          refine g_yes (Eq.trans (b := .bool (!r_23)) rfl (congrArg V.bool hg9)) (g_v1 (t := 5) (u := (.bool r_4.2)) (.bool r_4.2) h5 rfl rfl ?_)
          refine g_yes (Eq.trans (b := .bool (!r_23)) rfl (congrArg V.bool hg9)) (g_v2 (t1 := 58) (t2 := 59) (u1 := (.bool r_6.2)) (u2 := (.bool r_4.2)) (.bool (r_6.2 != r_4.2)) rfl rfl rfl rfl ?_)
          refine g_v2 (t1 := 57) (t2 := 60) (u1 := (.bool false)) (u2 := (.bool (r_6.2 != r_4.2))) (.bool (r_6.2 != r_4.2)) (Eq.trans (b := .bool (!r_23)) rfl (congrArg V.bool hg9)) rfl rfl rfl ?_
          refine g_end ?_
          refine e_end ?_
          refine renew [(1, (.ref (.bx 1) 0 [] (.agg [(.int .i64 aG_1.1), (Enc.enc (aG_1.2 : List (Int × Int)))]))), (2, (.bool false)), (4, (Enc.enc (r_4.1 : List Int))), (5, (.bool r_4.2)), (7, (encO (.at 7 [0]) (r_6.1 : NL Int))), (61, (.bool (r_6.2 != r_4.2)))] ⟨h1, h2, h4, h5, h7, rfl⟩ ?_
          rintro s ⟨h1, h2, h4, h5, h7, h61⟩
          exact t_f14_j2 H aG_1 r_4 r_6 (r_6.2 != r_4.2) _ ⟨h1, h2, h4, h5, h7, h61⟩ h
def w_FnExactBestElimination (F : Nat) (aG_1 : (Int × (List (Int × Int)))) : Option Bool :=
  (w_szGraph F aG_1 1048576).bind fun r_2 =>
  bif decide (r_2 < 0) then
    some true
  else
    (w_toGraph F aG_1).bind fun r_3 =>
    (s_BestElimination F r_3).bind fun r_4 =>
    (w_toGraph_o F aG_1).bind fun r_5 =>
    (i_BestElimination_o F (r_5.1, r_5.2.list)).bind fun r_6 =>
    (w_eqIntS F r_6.1.list r_4.1).bind fun r_24 =>
    bif (!r_24) then
      w_FnExactBestElimination_j3 F aG_1 r_4 r_5 r_6 true
    else
      w_FnExactBestElimination_j3 F aG_1 r_4 r_5 r_6 (r_6.2 != r_4.2)
theorem t14 (H : H14 D σ F) (aG_1 : (Int × (List (Int × Int)))) (s : Nat → V) (hs : Facts [(0, (.agg [(.int .i64 aG_1.1), (Enc.enc (aG_1.2 : List (Int × Int)))]))] s) (h : w_FnExactBestElimination F aG_1 = some r) : Run D σ (R14 r) (.run A14 []) s := by
  unfold w_FnExactBestElimination at h
  have h0 := hs
  refine .seq ?_
  refine run_reg ?_
  refine e_clr ?_
  refine e_end ?_
  refine g_box (.agg [(.int .i64 aG_1.1), (Enc.enc (aG_1.2 : List (Int × Int)))]) (rd_of (keep_clear (s := s) (pk := [1]) h0 rfl (map_agg (maps_cons rfl (maps_cons (Enc.map_enc _ (aG_1.2 : List (Int × Int))) maps_nil)))) rfl) (gone_clear (s := s) (pk := [1]) (t := 1) rfl) rfl ?_
  refine g_v0 (.bool false) rfl rfl ?_
  refine g_end ?_
  refine e_end ?_
  refine renew [(1, (.ref (.bx 1) 0 [] (.agg [(.int .i64 aG_1.1), (Enc.enc (aG_1.2 : List (Int × Int)))]))), (2, (.bool false))] ⟨rfl, rfl⟩ ?_
  rintro s ⟨h1, h2⟩
  refine .nsq ?_
  refine .seq ?_
  refine run_reg ?_
  refine e_end ?_
  refine g_v0 (.int .i64 1048576) rfl rfl ?_
  refine g_end ?_
  refine e_end ?_
  refine renew [(1, (.ref (.bx 1) 0 [] (.agg [(.int .i64 aG_1.1), (Enc.enc (aG_1.2 : List (Int × Int)))]))), (2, (.bool false)), (3, (.int .i64 1048576))] ⟨h1, h2, rfl⟩ ?_
  rintro s ⟨h1, h2, h3⟩
  refine .nsq ?_
  refine .seq ?_
  refine run_reg ?_
  refine e_end ?_
  refine g_v1 (t := 1) (u := (.ref (.bx 1) 0 [] (.agg [(.int .i64 aG_1.1), (Enc.enc (aG_1.2 : List (Int × Int)))]))) (.agg [(.int .i64 aG_1.1), (Enc.enc (aG_1.2 : List (Int × Int)))]) h1 rfl rfl ?_
  refine g_v1 (t := 3) (u := (.int .i64 1048576)) (.int .i64 1048576) h3 rfl rfl ?_
  obtain ⟨r_2, E_r_2, h⟩ := bind_some h
  refine g_call (m := 0) (al := false) (r := (Enc.enc (r_2 : Int))) [Enc.enc (aG_1 : (Int × (List (Int × Int)))), Enc.enc (1048576 : Int)] (ta_cons (v := (.agg [(.int .i64 aG_1.1), (Enc.enc (aG_1.2 : List (Int × Int)))])) rfl rfl (Enc.erase_enc (aG_1 : (Int × (List (Int × Int))))) (ta_cons (v := (.int .i64 1048576)) rfl rfl rfl ta_nil)) (H.c15 _ _ _ E_r_2) H.g15 rfl rfl rfl rfl ?_
  refine g_v1 (t := 16) (u := (.int .i64 r_2)) (.int .i64 r_2) rfl rfl rfl ?_
  refine g_end ?_
  refine e_end ?_
  refine renew [(1, (.ref (.bx 1) 0 [] (.agg [(.int .i64 aG_1.1), (Enc.enc (aG_1.2 : List (Int × Int)))]))), (2, (.bool false)), (3, (.int .i64 r_2))] ⟨h1, h2, rfl⟩ ?_
  rintro s ⟨h1, h2, h3⟩
  refine .nsq ?_
  refine .seq ?_
  refine .seq ?_
  refine run_reg ?_
  refine e_end ?_
  refine g_v1 (t := 3) (u := (.int .i64 r_2)) (.int .i64 r_2) h3 rfl rfl ?_
  refine g_v1 (t := 17) (u := (.int .i64 r_2)) (.bool (decide (r_2 < 0))) rfl rfl rfl ?_
  refine g_end ?_
  refine e_end ?_
  refine renew [(1, (.ref (.bx 1) 0 [] (.agg [(.int .i64 aG_1.1), (Enc.enc (aG_1.2 : List (Int × Int)))]))), (2, (.bool false)), (18, (.bool (decide (r_2 < 0))))] ⟨h1, h2, rfl⟩ ?_
  rintro s ⟨h1, h2, h18⟩
  refine .nsq ?_
  refine run_cond (t := decide (r_2 < 0)) h18 h (fun h => ?_) (fun h => ?_)
  · refine .seq ?_
    refine run_reg ?_
    refine e_end ?_
    refine g_v0 (.bool true) rfl rfl ?_
    refine g_end ?_
    refine e_end ?_
    refine renew [(1, (.ref (.bx 1) 0 [] (.agg [(.int .i64 aG_1.1), (Enc.enc (aG_1.2 : List (Int × Int)))]))), (2, (.bool true))] ⟨h1, rfl⟩ ?_
    rintro s ⟨h1, h2⟩
    refine .nsq ?_
    refine .ret ?_
    have hr := Option.some.inj h
    subst hr
    exact rrA (res_tmp h2) rfl
  · refine .skip ?_
    refine .nsq ?_
    refine .seq ?_
    refine run_reg ?_
    refine e_end ?_
    refine g_v1 (t := 1) (u := (.ref (.bx 1) 0 [] (.agg [(.int .i64 aG_1.1), (Enc.enc (aG_1.2 : List (Int × Int)))]))) (.agg [(.int .i64 aG_1.1), (Enc.enc (aG_1.2 : List (Int × Int)))]) h1 rfl rfl ?_
    obtain ⟨r_3, E_r_3, h⟩ := bind_some h
    refine g_call (m := 0) (al := true) (r := (Enc.enc (r_3 : (Int × (List (Int × Int)))))) [Enc.enc (aG_1 : (Int × (List (Int × Int))))] (ta_cons (v := (.agg [(.int .i64 aG_1.1), (Enc.enc (aG_1.2 : List (Int × Int)))])) rfl rfl (Enc.erase_enc (aG_1 : (Int × (List (Int × Int))))) ta_nil) (H.c17 _ _ E_r_3) H.g17 (hal_of (ht_cons (v := (.agg [(.int .i64 aG_1.1), (Enc.enc (aG_1.2 : List (Int × Int)))])) rfl rfl rfl ht_nil)) rfl rfl rfl ?_
    obtain ⟨r_4, E_r_4, h⟩ := bind_some h
    refine g_call (m := 0) (al := true) (r := (.tup [Enc.enc (r_4.1 : (List Int)), Enc.enc (r_4.2 : Bool)])) [Enc.enc (r_3 : (Int × (List (Int × Int))))] (ta_cons (v := (.agg [(.int .i64 r_3.1), (Enc.enc (r_3.2 : List (Int × Int)))])) rfl rfl (Enc.erase_enc (r_3 : (Int × (List (Int × Int))))) ta_nil) (H.c45 _ _ E_r_4) H.g45 (hal_of (ht_cons (v := (.agg [(.int .i64 r_3.1), (Enc.enc (r_3.2 : List (Int × Int)))])) rfl rfl rfl ht_nil)) rfl rfl rfl ?_
    refine g_v1 (t := 22) (u := (.tup [(Enc.enc (r_4.1 : List Int)), (.bool r_4.2)])) (.tup [(Enc.enc (r_4.1 : List Int)), (.bool r_4.2)]) rfl rfl rfl ?_
    refine g_v1 (t := 19) (u := (.tup [(Enc.enc (r_4.1 : List Int)), (.bool r_4.2)])) (Enc.enc (r_4.1 : List Int)) rfl rfl rfl ?_
    refine g_v1 (t := 19) (u := (.tup [(Enc.enc (r_4.1 : List Int)), (.bool r_4.2)])) (.bool r_4.2) rfl rfl rfl ?_
    refine g_v1 (t := 23) (u := (Enc.enc (r_4.1 : List Int))) (Enc.enc (r_4.1 : List Int)) rfl rfl rfl ?_
    refine g_v1 (t := 24) (u := (.bool r_4.2)) (.bool r_4.2) rfl rfl rfl ?_
    refine g_end ?_
    refine e_end ?_
    refine renew [(1, (.ref (.bx 1) 0 [] (.agg [(.int .i64 aG_1.1), (Enc.enc (aG_1.2 : List (Int × Int)))]))), (2, (.bool false)), (4, (Enc.enc (r_4.1 : List Int))), (5, (.bool r_4.2))] ⟨h1, h2, rfl, rfl⟩ ?_
    rintro s ⟨h1, h2, h4, h5⟩
    refine .nsq ?_
    refine .seq ?_
    refine run_reg ?_
    refine e_clr ?_
    refine e_end ?_
    refine g_v1 (t := 1) (u := (.ref (.bx 1) 0 [] (.agg [(.int .i64 aG_1.1), (Enc.enc (aG_1.2 : List (Int × Int)))]))) (.agg [(.int .i64 aG_1.1), (Enc.enc (aG_1.2 : List (Int × Int)))]) (keep_clear (s := s) (pk := [26, 6]) h1 rfl (map_bx rfl (map_agg (maps_cons rfl (maps_cons (Enc.map_enc _ (aG_1.2 : List (Int × Int))) maps_nil))))) rfl rfl ?_
    obtain ⟨r_5, E_r_5, h⟩ := bind_some h
    refine g_callO (m := 1) (al := false) (r := (.agg [(Enc.enc (r_5.1 : Int)), (encO .sh (r_5.2 : NL (Int × Int)))])) (v := (.agg [(.int .i64 r_5.1), (encO (.at 26 [1]) (r_5.2 : NL (Int × Int)))])) (kk := 1000000017) [Enc.enc (aG_1 : (Int × (List (Int × Int))))] (ta_cons (v := (.agg [(.int .i64 aG_1.1), (Enc.enc (aG_1.2 : List (Int × Int)))])) rfl rfl (Enc.erase_enc (aG_1 : (Int × (List (Int × Int))))) ta_nil) (H.c17o _ _ E_r_5) H.g17o rfl (toks_agg (tokss_cons rfl (tokss_cons toks_encS tokss_nil))) (tag_agg (tags_cons rfl (tags_cons tag_encO tags_nil))) rfl (gone_clear (s := s) (pk := [26, 6]) (t := 26) rfl) ?_
    refine g_alloc (gone_clear (s := s) (pk := [26, 6]) (t := 6) rfl) ?_
    refine g_store (.agg [(.int .i64 r_5.1), (encO (.at 26 [1]) (r_5.2 : NL (Int × Int)))]) (rd_of rfl rfl) (rd_of rfl rfl) ⟨by decide, by decide, rfl, (by simp [V.shape, V.shapes, shape_encP, Sh.beq, Sh.beqs]), (by simp [V.shape, V.shapes, shape_encP, Sh.beq, Sh.beqs]), (by simp [V.toks, V.tokss, tok_memP])⟩ ?_
    refine g_end ?_
    refine e_end ?_
    refine renew [(1, (.ref (.bx 1) 0 [] (.agg [(.int .i64 aG_1.1), (Enc.enc (aG_1.2 : List (Int × Int)))]))), (2, (.bool false)), (4, (Enc.enc (r_4.1 : List Int))), (5, (.bool r_4.2)), (6, (.ref (.bx 6) 0 [] (.agg [(.int .i64 r_5.1), (encO (.at 26 [1]) (r_5.2 : NL (Int × Int)))])))] ⟨(keep_mut (keep_clear (s := s) (pk := [26, 6]) h1 rfl (map_bx rfl (map_agg (maps_cons rfl (maps_cons (Enc.map_enc _ (aG_1.2 : List (Int × Int))) maps_nil))))) (mut_ref_ne rfl rfl (mut_agg (muts_cons rfl (muts_cons (Enc.mut_enc _ _ _ _ (aG_1.2 : List (Int × Int))) rfl))))), (keep_mut (keep_clear (s := s) (pk := [26, 6]) h2 rfl rfl) rfl), (keep_mut (keep_clear (s := s) (pk := [26, 6]) h4 rfl (Enc.map_enc _ (r_4.1 : List Int))) (Enc.mut_enc _ _ _ _ (r_4.1 : List Int))), (keep_mut (keep_clear (s := s) (pk := [26, 6]) h5 rfl rfl) rfl), (keep_mut rfl rfl)⟩ ?_
    rintro s ⟨h1, h2, h4, h5, h6⟩
    refine .nsq ?_
    refine .seq ?_
    refine run_reg ?_
    refine e_clr ?_
    refine e_end ?_
    refine g_v (.agg [(.int .i64 r_5.1), (encO (.at 26 [1]) (r_5.2 : NL (Int × Int)))]) (ev_loadN (c := (.agg [(.int .i64 r_5.1), (encO (.at 26 [1]) (r_5.2 : NL (Int × Int)))])) (keep_clear (s := s) (pk := [29]) h6 rfl (map_bx rfl (map_agg (maps_cons rfl (maps_cons (map_encO (r := 26) (p := [1]) rfl rfl) maps_nil))))) (by simp [V.shape, V.shapes, shape_encP, Sh.beq, Sh.beqs])) ?_
    obtain ⟨r_6, E_r_6, h⟩ := bind_some h
    refine g_callO (m := 1) (al := false) (r := (.tup [(encO .sh (r_6.1 : NL Int)), (Enc.enc (r_6.2 : Bool))])) (v := (.tup [(encO (.at 29 [0]) (r_6.1 : NL Int)), (.bool r_6.2)])) (kk := 1000000046) [Enc.enc ((r_5.1, r_5.2.list) : (Int × (List (Int × Int))))] (ta_cons (v := (.agg [(.int .i64 r_5.1), (encO (.at 26 [1]) (r_5.2 : NL (Int × Int)))])) rfl rfl (erase_agg (erases_cons rfl (erases_cons (erase_encO (o := r_5.2)) erases_nil))) ta_nil) (H.c46o _ _ E_r_6) H.g46o rfl (toks_tup (tokss_cons toks_encS (tokss_cons rfl tokss_nil))) (tag_tup (tags_cons tag_encO (tags_cons rfl tags_nil))) rfl (gone_clear (s := s) (pk := [29]) (t := 29) rfl) ?_
    refine g_v1 (t := 29) (u := (.tup [(encO (.at 29 [0]) (r_6.1 : NL Int)), (.bool r_6.2)])) (.tup [(encO (.at 29 [0]) (r_6.1 : NL Int)), (.bool r_6.2)]) rfl rfl rfl ?_
    refine g_v (encO (.at 29 [0]) (r_6.1 : NL Int)) (ev_extN (v := (encO (.at 29 [0]) (r_6.1 : NL Int))) rfl rfl ok_encP) ?_
    refine g_v1 (t := 27) (u := (.tup [(encO (.at 29 [0]) (r_6.1 : NL Int)), (.bool r_6.2)])) (.bool r_6.2) rfl rfl rfl ?_
    refine g_v (encO (.at 29 [0]) (r_6.1 : NL Int)) (ev_mov rfl ok_encO) ?_
    refine g_v1 (t := 31) (u := (.bool r_6.2)) (.bool r_6.2) rfl rfl rfl ?_
    refine g_end ?_
    refine e_home (r := 29) (x := 7) (v := (encO (.at 29 [0]) (r_6.1 : NL Int))) (by exact rfl) ok_encO (fun s_4 hg_4 => ?_)
    refine e_end ?_
    refine renew [(1, (.ref (.bx 1) 0 [] (.agg [(.int .i64 aG_1.1), (Enc.enc (aG_1.2 : List (Int × Int)))]))), (2, (.bool false)), (4, (Enc.enc (r_4.1 : List Int))), (5, (.bool r_4.2)), (6, (.ref (.bx 6) 0 [] (.agg [(.int .i64 r_5.1), (encO (.at 26 [1]) (r_5.2 : NL (Int × Int)))]))), (7, (encO (.at 7 [0]) (r_6.1 : NL Int))), (8, (.bool r_6.2))] ⟨(hg_4 1 (.ref (.bx 1) 0 [] (.agg [(.int .i64 aG_1.1), (Enc.enc (aG_1.2 : List (Int × Int)))])) (.ref (.bx 1) 0 [] (.agg [(.int .i64 aG_1.1), (Enc.enc (aG_1.2 : List (Int × Int)))])) (keep_clear (s := s) (pk := [29]) h1 rfl (map_bx rfl (map_agg (maps_cons rfl (maps_cons (Enc.map_enc _ (aG_1.2 : List (Int × Int))) maps_nil))))) (map_bx rfl (map_agg (maps_cons rfl (maps_cons (Enc.map_enc _ (aG_1.2 : List (Int × Int))) maps_nil))))), (hg_4 2 (.bool false) (.bool false) (keep_clear (s := s) (pk := [29]) h2 rfl rfl) rfl), (hg_4 4 (Enc.enc (r_4.1 : List Int)) (Enc.enc (r_4.1 : List Int)) (keep_clear (s := s) (pk := [29]) h4 rfl (Enc.map_enc _ (r_4.1 : List Int))) (Enc.map_enc _ (r_4.1 : List Int))), (hg_4 5 (.bool r_4.2) (.bool r_4.2) (keep_clear (s := s) (pk := [29]) h5 rfl rfl) rfl), (hg_4 6 (.ref (.bx 6) 0 [] (.agg [(.int .i64 r_5.1), (encO (.at 26 [1]) (r_5.2 : NL (Int × Int)))])) (.ref (.bx 6) 0 [] (.agg [(.int .i64 r_5.1), (encO (.at 26 [1]) (r_5.2 : NL (Int × Int)))])) (keep_clear (s := s) (pk := [29]) h6 rfl (map_bx rfl (map_agg (maps_cons rfl (maps_cons (map_encO (r := 26) (p := [1]) rfl rfl) maps_nil))))) (map_bx rfl (map_agg (maps_cons rfl (maps_cons (map_encO (r := 26) (p := [1]) rfl rfl) maps_nil))))), (hg_4 7 (encO (.at 29 [0]) (r_6.1 : NL Int)) (encO (.at 7 [0]) (r_6.1 : NL Int)) rfl (map_encO (r := 29) (p := [0]) rfl rfl)), (hg_4 8 (.bool r_6.2) (.bool r_6.2) rfl rfl)⟩ ?_
    rintro s ⟨h1, h2, h4, h5, h6, h7, h8⟩
    refine .nsq ?_
    refine .seq ?_
    refine .seq ?_
    refine run_reg ?_
    refine e_end ?_
    refine g_v (encO (.at 7 [0]) (r_6.1 : NL Int)) (ev_mov h7 ok_encO) ?_
    refine g_v1 (t := 4) (u := (Enc.enc (r_4.1 : List Int))) (Enc.enc (r_4.1 : List Int)) h4 rfl rfl ?_
    obtain ⟨r_24, E_r_24, h⟩ := bind_some h
    refine g_call (m := 0) (al := false) (r := (Enc.enc (r_24 : Bool))) [Enc.enc (r_6.1.list : (List Int)), Enc.enc (r_4.1 : (List Int))] (ta_cons (v := (encO (.at 7 [0]) (r_6.1 : NL Int))) rfl ok_encP (erase_encO (o := r_6.1)) (ta_cons (v := (Enc.enc (r_4.1 : List Int))) rfl rfl (Enc.erase_enc (r_4.1 : (List Int))) ta_nil)) (H.c19 _ _ _ E_r_24) H.g19 rfl rfl rfl rfl ?_
    refine g_v1 (t := 34) (u := (.bool r_24)) (.bool (!r_24)) rfl rfl rfl ?_
    refine g_v1 (t := 35) (u := (.bool (!r_24))) (.bool (!r_24)) rfl rfl rfl ?_
    refine split_on (c := (!r_24)) h (fun hg5 h => ?_) (fun hg5 h => ?_)
    · refine g_no (Eq.trans (b := .bool (!r_24)) rfl (congrArg V.bool hg5)) ?_
      refine g_no (Eq.trans (b := .bool (!r_24)) rfl (congrArg V.bool hg5)) ?_
      refine g_no (Eq.trans (b := .bool (!r_24)) rfl (congrArg V.bool hg5)) ?_
      refine g_v2 (t1 := 36) (t2 := 39) (u1 := (.bool true)) (u2 := (.tup [])) (.bool true) (Eq.trans (b := .bool (!r_24)) rfl (congrArg V.bool hg5)) rfl rfl rfl ?_
      refine g_end ?_
      refine e_end ?_
      refine renew [(1, (.ref (.bx 1) 0 [] (.agg [(.int .i64 aG_1.1), (Enc.enc (aG_1.2 : List (Int × Int)))]))), (2, (.bool false)), (4, (Enc.enc (r_4.1 : List Int))), (5, (.bool r_4.2)), (6, (.ref (.bx 6) 0 [] (.agg [(.int .i64 r_5.1), (encO (.at 26 [1]) (r_5.2 : NL (Int × Int)))]))), (7, (encO (.at 7 [0]) (r_6.1 : NL Int))), (8, (.bool r_6.2)), (40, (.bool true))] ⟨h1, h2, h4, h5, h6, h7, h8, rfl⟩ ?_
      rintro s ⟨h1, h2, h4, h5, h6, h7, h8, h40⟩
      exact t_f14_j3 H aG_1 r_4 r_5 r_6 true _ ⟨h1, h2, h4, h5, h6, h7, h8, h40⟩ h
    · refine g_yes (Eq.trans (b := .bool (!r_24)) rfl (congrArg V.bool hg5)) (g_v1 (t := 8) (u := (.bool r_6.2)) (.bool r_6.2) h8 rfl rfl ?_)
      refine g_yes (Eq.trans (b := .bool (!r_24)) rfl (congrArg V.bool hg5)) (g_v1 (t := 5) (u := (.bool r_4.2)) (.bool r_4.2) h5 rfl rfl ?_)
      refine g_yes (Eq.trans (b := .bool (!r_24)) rfl (congrArg V.bool hg5)) (g_v2 (t1 := 37) (t2 := 38) (u1 := (.bool r_6.2)) (u2 := (.bool r_4.2)) (.bool (r_6.2 != r_4.2)) rfl rfl rfl rfl ?_)
      refine g_v2 (t1 := 36) (t2 := 39) (u1 := (.bool false)) (u2 := (.bool (r_6.2 != r_4.2))) (.bool (r_6.2 != r_4.2)) (Eq.trans (b := .bool (!r_24)) rfl (congrArg V.bool hg5)) rfl rfl rfl ?_
      refine g_end ?_
      refine e_end ?_
      refine renew [(1, (.ref (.bx 1) 0 [] (.agg [(.int .i64 aG_1.1), (Enc.enc (aG_1.2 : List (Int × Int)))]))), (2, (.bool false)), (4, (Enc.enc (r_4.1 : List Int))), (5, (.bool r_4.2)), (6, (.ref (.bx 6) 0 [] (.agg [(.int .i64 r_5.1), (encO (.at 26 [1]) (r_5.2 : NL (Int × Int)))]))), (7, (encO (.at 7 [0]) (r_6.1 : NL Int))), (8, (.bool r_6.2)), (40, (.bool (r_6.2 != r_4.2)))] ⟨h1, h2, h4, h5, h6, h7, h8, rfl⟩ ?_
      rintro s ⟨h1, h2, h4, h5, h6, h7, h8, h40⟩
      exact t_f14_j3 H aG_1 r_4 r_5 r_6 (r_6.2 != r_4.2) _ ⟨h1, h2, h4, h5, h6, h7, h8, h40⟩ h
end
def e14 (F : Nat) : Ent := ⟨14, da (fun (x : ((Int × (List (Int × Int))) × Unit)) => w_FnExactBestElimination F x.1) (fun (r : Bool) => (Enc.enc (r : Bool))), 0, false, selF []⟩
theorem p14 {F : Nat} {x0 : (Int × (List (Int × Int)))} {r : Bool} (h : w_FnExactBestElimination F x0 = some r) : (e14 F).den [Enc.enc x0] = some (Enc.enc (r : Bool)) := da_put (f := fun (x : ((Int × (List (Int × Int))) × Unit)) => w_FnExactBestElimination F x.1) (t := fun (r : Bool) => (Enc.enc (r : Bool))) (x0, ()) h
theorem o14 {D : Den} {σ : Sig} {F : Nat} (hF : Fits2 Try.prog D σ) (H : H14 D σ F) : (e14 F).Ok Try.prog := by
  refine ok_of (f := 14) (show unk 14 = 14 from rfl) (fun args r h => ?_) ⟨Try.f14, Try.func14, rfl, rfl⟩
  obtain ⟨⟨x0, _⟩, y, rfl, hy, rfl⟩ := da_open h
  exact contract_run hF (by kernel_rfl) Try.func14 rfl c14 (show 1 ≤ Try.f14.ntmps by decide) (t14 H x0 _ rfl hy)
end Go.Zq
