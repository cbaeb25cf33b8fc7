/- Functions of the program as typed functions, and that the machine runs as they say (part 3). No further condition. -/
import Derived.Test.YtdhbhaaiohkpdaaK3
import Derived.Test.YtdhbhaaiohkpdaaProg
import Derived.Test.YtdhbhaaiohkpdaaChecked
import Derived.KernelRfl
import Derived.Test.YtdhbhaaiohkpdaaG2
set_option linter.unusedVariables false
set_option linter.unusedSimpArgs false
/- Functions of the program, as typed functions, and that the machine runs as they say. -/
namespace Go.Zq
open Go.Proofs
/- loop.example/g01109/laws.FnExactLayoutOfBags -/
def A4_1 : AC := (.cond (.t 110) (.seq (.reg [] [((jv 4 (.mov (.k (.bool false)))))] []) .ret) .skip)
def A4_5 : AC := (.cond (.t 115) (.seq (.reg [] [((jv 4 (.mov (.k (.bool false)))))] []) .ret) .skip)
def A4_7 : AC := (.cond (.t 118) (.seq (.reg [] [((jv 4 (.mov (.k (.bool false)))))] []) .ret) .skip)
def A4_8 : AC := (.seq (.reg [] [((jv 4 (.mov (.k (.bool true)))))] []) .ret)
def A4_6 : AC := (.seq (.seq (.reg [] [(jm 116 14), (jm 117 13), ((jv 118 (.bin .neq (.t 116) (.t 117))))] []) A4_7) A4_8)
def A4_4 : AC := (.seq (.seq (.reg [] [(jm 114 14), ((jv 115 (.bin .lss (.t 114) (jn 0))))] []) A4_5) A4_6)
def A4_3 : AC := (.seq (.reg [] [(jm 111 10), (jm 112 14), (.mk (some 113) none false (.call (.k (.fn 31 [] [])) [(.t 111), (.t 112)])), (jm 14 113)] []) A4_4)
def A4_2 : AC := (.seq (.reg [] [((jv 14 (.mov (jn 1))))] []) A4_3)
def A4_9 : AC := (.cond (.t 82) (.seq (.reg [] [((jv 4 (.mov (.k (.bool false)))))] []) .ret) .skip)
def A4_15 : AC := (.cond (.t 90) (.seq (.reg [] [((jv 4 (.mov (.k (.bool false)))))] []) .ret) .skip)
def A4_17 : AC := (.cond (.t 93) (.seq (.reg [] [((jv 4 (.mov (.k (.bool false)))))] []) .ret) .skip)
def A4_19 : AC := (.seq (.seq (.reg [] [(jm 102 15), (jm 103 6), (.mk (some 104) none false (.call (.k (.fn 21 [] [])) [(.t 102), (.t 103)])), ((jv 105 (.un .not (.t 104)))), (jm 106 105), ((jg 107 106 false (.mov (.t 16)))), ((jg 108 106 false (.mov (.t 7)))), ((jg 109 106 false (.beq true (.t 107) (.t 108)))), ((jv 110 (.pick (.t 106) (.k (.bool true)) (.t 109))))] []) A4_1) A4_2)
def A4_18 : AC := (.seq (.reg [.clr [99]] [((jv 95 (.load (.ag [.s, .p]) (.t 2)))), (.mk (some 96) none false (.call (.k (.fn 17 [] [])) [(.t 95)])), (jm 97 1), (.mk (some 98) none false (.call (.k (.fn 27 [] [])) [(.t 97)])), (.mk (some 99) none false (.callO (.k (.fn 28 [] [])) [(.t 96), (.t 98)])), (jm 94 99), ((jv 100 (.ext (.t 94) 0))), ((jv 101 (.extS (.t 94) 1))), (jm 15 100), (jm 16 101)] [.home 99 15]) A4_19)
def A4_16 : AC := (.seq (.seq (.reg [] [(jm 91 14), (jm 92 13), ((jv 93 (.bin .neq (.t 91) (.t 92))))] []) A4_17) A4_18)
def A4_14 : AC := (.seq (.seq (.reg [] [(jm 89 14), ((jv 90 (.bin .lss (.t 89) (jn 0))))] []) A4_15) A4_16)
def A4_13 : AC := (.seq (.reg [] [(jm 86 10), (jm 87 14), (.mk (some 88) none false (.call (.k (.fn 31 [] [])) [(.t 86), (.t 87)])), (jm 14 88)] []) A4_14)
def A4_12 : AC := (.seq (.reg [] [((jv 14 (.mov (jn 1))))] []) A4_13)
def A4_11 : AC := (.seq (.reg [] [(jm 83 10), (jm 84 13), (.mk (some 85) none false (.mark (.k (.fn 23 [] [])) [(.t 83), (.t 84)])), (jm 13 85)] []) A4_12)
def A4_10 : AC := (.seq (.reg [] [((jv 13 (.mov (jn 1))))] []) A4_11)
def A4_20 : AC := (.cond (.t 53) (.seq (.reg [] [((jv 4 (.mov (.k (.bool false)))))] []) .ret) .skip)
def A4_22 : AC := (.cond (.t 58) (.seq (.reg [] [((jv 4 (.mov (.k (.bool false)))))] []) .ret) .skip)
def A4_24 : AC := (.cond (.t 63) (.seq (.reg [] [((jv 4 (.mov (.k (.bool false)))))] []) .ret) .skip)
def A4_28 : AC := (.seq (.seq (.reg [] [(jm 70 12), ((jv 71 (.bin .lss (.t 70) (jn 0)))), (jm 72 71), ((jg 73 72 false (.mov (.t 10)))), ((jg 74 72 false (.mov (.t 6)))), (.mk (some 75) (some (72, false)) false (.call (.k (.fn 21 [] [])) [(.t 73), (.t 74)])), ((jg 76 72 false (.un .not (.t 75)))), ((jv 77 (.pick (.t 72) (.k (.bool true)) (.t 76)))), (jm 78 77), ((jg 79 78 false (.mov (.t 11)))), ((jg 80 78 false (.mov (.t 7)))), ((jg 81 78 false (.beq true (.t 79) (.t 80)))), ((jv 82 (.pick (.t 78) (.k (.bool true)) (.t 81))))] []) A4_9) A4_10)
def A4_27 : AC := (.seq (.reg [] [(jm 67 9), (jm 68 12), (.mk (some 69) none false (.mark (.k (.fn 30 [] [])) [(.t 67), (.t 68)])), (jm 12 69)] []) A4_28)
def A4_26 : AC := (.seq (.reg [] [((jv 64 (.load (.ag [.s, .p]) (.t 8)))), (jm 65 12), (.mk (some 66) none false (.mark (.k (.fn 22 [] [])) [(.t 64), (.t 65)])), (jm 12 66)] []) A4_27)
def A4_25 : AC := (.seq (.reg [] [((jv 12 (.mov (jn 1))))] []) A4_26)
def A4_23 : AC := (.seq (.seq (.reg [] [(jm 59 9), (jm 60 1), (.mk (some 61) none false (.call (.k (.fn 27 [] [])) [(.t 60)])), (.mk (some 62) none false (.call (.k (.fn 29 [] [])) [(.t 59), (.t 61)])), ((jv 63 (.un .not (.t 62))))] []) A4_24) A4_25)
def A4_21 : AC := (.seq (.seq (.reg [] [((jv 54 (.load (.ag [.s, .p]) (.t 8)))), ((jv 55 (.load (.ag [.s, .p]) (.t 2)))), (.mk (some 56) none false (.call (.k (.fn 17 [] [])) [(.t 55)])), (.mk (some 57) none false (.call (.k (.fn 20 [] [])) [(.t 54), (.t 56)])), ((jv 58 (.un .not (.t 57))))] []) A4_22) A4_23)
def A4_32 : AC := (.cond (.t 21) (.seq (.reg [] [((jv 4 (.mov (.k (.bool true)))))] []) .ret) .skip)
def A4_35 : AC := (.cond (.t 26) (.seq (.reg [] [((jv 4 (.mov (.k (.bool true)))))] []) .ret) .skip)
def A4_40 : AC := (.seq (.seq (.reg [] [(jm 45 10), (jm 46 6), (.mk (some 47) none false (.call (.k (.fn 21 [] [])) [(.t 45), (.t 46)])), ((jv 48 (.un .not (.t 47)))), (jm 49 48), ((jg 50 49 false (.mov (.t 11)))), ((jg 51 49 false (.mov (.t 7)))), ((jg 52 49 false (.beq true (.t 50) (.t 51)))), ((jv 53 (.pick (.t 49) (.k (.bool true)) (.t 52))))] []) A4_20) A4_21)
def A4_39 : AC := (.seq (.reg [.clr [42]] [((jv 40 (.load (.ag [.s, .p]) (.t 8)))), (jm 41 9), (.mk (some 42) none false (.callO (.k (.fn 28 [] [])) [(.t 40), (.t 41)])), (jm 39 42), ((jv 43 (.ext (.t 39) 0))), ((jv 44 (.extS (.t 39) 1))), (jm 10 43), (jm 11 44)] [.home 42 10]) A4_40)
def A4_38 : AC := (.seq (.reg [.clr [38]] [(jm 37 1), (.mk (some 38) none false (.callO (.k (.fn 27 [] [])) [(.t 37)])), (jm 9 38)] [.home 38 9]) A4_39)
def A4_37 : AC := (.seq (.reg [.clr [36, 8]] [((jv 35 (.load (.ag [.s, .p]) (.t 2)))), (.mk (some 36) none false (.callO (.k (.fn 17 [] [])) [(.t 35)])), (.mk (some 8) none false (.alloc (.agg [(.int .i64 (.ofNat 0)), (.sl .nl (.ag [.s, .s]) 0 [])]))), (.mk none none false (.store (.ag [.s, .p]) (.t 8) (.t 36)))] []) A4_38)
def A4_36 : AC := (.seq (.reg [] [((jv 28 (.load (.ag [.s, .p]) (.t 2)))), (.mk (some 29) none false (.call (.k (.fn 17 [] [])) [(.t 28)])), (jm 30 1), (.mk (some 31) none false (.call (.k (.fn 27 [] [])) [(.t 30)])), (.mk (some 32) none false (.call (.k (.fn 26 [] [])) [(.t 29), (.t 31)])), (jm 27 32), ((jv 33 (.ext (.t 27) 0))), ((jv 34 (.extS (.t 27) 1))), (jm 6 33), (jm 7 34)] []) A4_37)
def A4_34 : AC := (.seq (.seq (.reg [] [(jm 25 5), ((jv 26 (.bin .lss (.t 25) (jn 0))))] []) A4_35) A4_36)
def A4_33 : AC := (.seq (.reg [] [(jm 22 1), (jm 23 5), (.mk (some 24) none false (.call (.k (.fn 25 [] [])) [(.t 22), (.t 23)])), (jm 5 24)] []) A4_34)
def A4_31 : AC := (.seq (.seq (.reg [] [(jm 20 5), ((jv 21 (.bin .lss (.t 20) (jn 0))))] []) A4_32) A4_33)
def A4_30 : AC := (.seq (.reg [] [((jv 17 (.load (.ag [.s, .p]) (.t 2)))), (jm 18 5), (.mk (some 19) none false (.call (.k (.fn 15 [] [])) [(.t 17), (.t 18)])), (jm 5 19)] []) A4_31)
def A4_29 : AC := (.seq (.reg [] [((jv 5 (.mov (jn 1048576))))] []) A4_30)
def A4 : AC := (.seq (.reg [.clr [2]] [(.mk (some 2) none false (.box (.t 0))), ((jv 4 (.mov (.k (.bool false)))))] []) A4_29)
def an4 : List An := [{ id := 0, pre := [.clr [2]], ep := [], lin := [], sp := [] }, { id := 9, pre := [.clr [36, 8]], ep := [], lin := [], sp := [1001] }, { id := 10, pre := [.clr [38]], ep := [.home 38 9], lin := [], sp := [1001] }, { id := 11, pre := [.clr [42]], ep := [.home 42 10], lin := [], sp := [1002] }, { id := 19, pre := [], ep := [], lin := [], sp := [2] }, { id := 20, pre := [], ep := [], lin := [], sp := [2] }, { id := 24, pre := [], ep := [], lin := [], sp := [2] }, { id := 31, pre := [.clr [99]], ep := [.home 99 15], lin := [], sp := [1004] }]
theorem c4 : cC Try.prog Try.f4.ntmps an4 (Try.f4.body.getD .skip) = some A4 := by kernel_rfl
structure H4 (D : Den) (σ : Sig) (F : Nat) : Prop where
  c15 : ∀ (x0 : (Int × (List (Int × Int)))) (x1 : Int) r, w_szGraph F x0 x1 = some r → D 15 [Enc.enc x0, Enc.enc x1] = some (Enc.enc (r : Int))
  g15 : σ 15 = some (0, false)
  c25 : ∀ (x0 : (List (List Int))) (x1 : Int) r, w_szIntSS F x0 x1 = some r → D 25 [Enc.enc x0, Enc.enc x1] = some (Enc.enc (r : Int))
  g25 : σ 25 = some (0, false)
  c17 : ∀ (x0 : (Int × (List (Int × Int)))) r, w_toGraph F x0 = some r → D 17 [Enc.enc x0] = some (Enc.enc (r : (Int × (List (Int × Int)))))
  g17 : σ 17 = some (0, true)
  c27 : ∀ (x0 : (List (List Int))) r, w_toIntSS F x0 = some r → D 27 [Enc.enc x0] = some (Enc.enc (r : (List (List Int))))
  g27 : σ 27 = some (0, true)
  c26 : ∀ (x0 : (Int × (List (Int × Int)))) (x1 : (List (List Int))) r, s_LayoutOfBags F x0 x1 = some r → D 26 [Enc.enc x0, Enc.enc x1] = some (.tup [Enc.enc (r.1 : (List Int)), Enc.enc (r.2 : Bool)])
  g26 : σ 26 = some (0, false)
  c17o : ∀ (x0 : (Int × (List (Int × Int)))) r, w_toGraph_o F x0 = some r → D 1000000017 [Enc.enc x0] = some (.agg [(Enc.enc (r.1 : Int)), (encO .sh (r.2 : NL (Int × Int)))])
  g17o : σ 1000000017 = some (1, false)
  c27o : ∀ (x0 : (List (List Int))) r, w_toIntSS_o F x0 = some r → D 1000000027 [Enc.enc x0] = some (encNs (r : NL (NL Int)))
  g27o : σ 1000000027 = some (2, false)
  c28o : ∀ (x0 : (Int × (List (Int × Int)))) (x1 : (List (List Int))) r, i_LayoutOfBags_o F x0 x1 = some r → D 1000000028 [Enc.enc x0, Enc.enc x1] = some (.tup [(encO .sh (r.1 : NL Int)), (Enc.enc (r.2 : Bool))])
  g28o : σ 1000000028 = some (1, false)
  c21 : ∀ (x0 : (List Int)) (x1 : (List Int)) r, w_eqIntS F x0 x1 = some r → D 21 [Enc.enc x0, Enc.enc x1] = some (Enc.enc (r : Bool))
  g21 : σ 21 = some (0, false)
  c20 : ∀ (x0 : (Int × (List (Int × Int)))) (x1 : (Int × (List (Int × Int)))) r, w_eqGraph F x0 x1 = some r → D 20 [Enc.enc x0, Enc.enc x1] = some (Enc.enc (r : Bool))
  g20 : σ 20 = some (0, false)
  c29 : ∀ (x0 : (List (List Int))) (x1 : (List (List Int))) r, w_eqIntSS F x0 x1 = some r → D 29 [Enc.enc x0, Enc.enc x1] = some (Enc.enc (r : Bool))
  g29 : σ 29 = some (0, false)
  c22 : ∀ (x0 : (Og (Int × Int))) (x1 : Int) r, w_markGraph F x0 x1 = some r → D 22 [Arg.arg x0, Enc.enc x1] = some (.tup [Enc.enc (r.1 : Int), .agg [Enc.enc (r.2.a : Int), encO (.at pinR [1]) (r.2.v : NL (Int × Int))]])
  g22 : σ 22 = some (pinR, false)
  c30 : ∀ (x0 : (On2 Int)) (x1 : Int) r, w_markIntSS F x0 x1 = some r → D 30 [Arg.arg x0, Enc.enc x1] = some (.tup [Enc.enc (r.1 : Int), encN pinR [] (r.2 : NL (NL Int))])
  g30 : σ 30 = some (pinR, false)
  c23 : ∀ (x0 : (On Int)) (x1 : Int) r, w_markIntS F x0 x1 = some r → D 23 [Arg.arg x0, Enc.enc x1] = some (.tup [Enc.enc (r.1 : Int), encO (.at pinR []) (r.2 : NL Int)])
  g23 : σ 23 = some (pinR, false)
  c31 : ∀ (x0 : (List Int)) (x1 : Int) r, w_heldIntS F x0 x1 = some r → D 31 [Enc.enc x0, Enc.enc x1] = some (Enc.enc (r : Int))
  g31 : σ 31 = some (0, false)
abbrev R4 (r : Bool) : (Nat → V) → Prop := RR Try.prog [.tmp 4] 0 false (Enc.enc (r : Bool))
section
variable {D : Den} {σ : Sig} {F : Nat} {r : Bool}
def w_FnExactLayoutOfBags_j1 (F : Nat) (m_22 : (NL Int)) (r_21 : (Int × (NL Int)))  (x_28 : Bool) : Option Bool :=
  bif x_28 then
    some false
  else
    (w_heldIntS F m_22.list 1).bind fun r_29 =>
    bif decide (r_29 < 0) then
      some false
    else
      bif (r_29 != r_21.1) then
        some false
      else
        some true
theorem t_f4_j1 (H : H4 D σ F) (m_22 : (NL Int)) (r_21 : (Int × (NL Int)))  (x_28 : Bool) (s : Nat → V) (hs : Facts [(4, (jb false)), (10, (oI 10 [0] m_22)), (13, (ji r_21.1)), (110, (jb x_28))] s) (h : w_FnExactLayoutOfBags_j1 F m_22 r_21  x_28 = some r) : Run D σ (R4 r) (.nrm [.sq A4_1, .sq A4_2]) s := by
  unfold w_FnExactLayoutOfBags_j1 at h
  obtain ⟨h4, h10, h13, h110⟩ := hs
  refine .nsq (run_cond (t := x_28) h110 h (fun h => ?_) (fun h => ?_))
  · refine .seq (rg (g0 (jb false) fun h4 => ?_))
    refine gq (.nsq (.ret ?_))
    have hr := Option.some.inj h
    subst hr
    exact rrA (res_tmp h4) rfl
  refine .skip (.nsq (.seq (rg (g0 (ji 1) fun h14 => gq (.nsq (.seq (rg (gv (oI 10 [0] m_22) (ev_mov h10 ok_encO) fun h111 => ?_))))))))
  refine gm h14 fun h112 => ?_
  obtain ⟨r_29, E_r_29, h⟩ := bind_some h
  refine g_call (m := 0) (al := false) (r := (Enc.enc (r_29 : Int))) [Enc.enc (m_22.list : (List Int)), Enc.enc (1 : Int)] (ta_cons (v := (oI 10 [0] m_22)) h111 ok_encP (erase_encO (o := m_22)) (ta_cons (v := (ji 1)) h112 rfl rfl ta_nil)) (H.c31 _ _ _ E_r_29) H.g31 rfl rfl rfl rfl ?_
  refine gm (rfl : (_ : V) = (ji r_29)) fun h14 => ?_
  refine gq (.nsq (.seq (.seq (rg (gm h14 fun h114 => g1 114 (jb (decide (r_29 < 0))) h114 fun h115 => ?_)))))
  refine gq (.nsq (run_cond (t := decide (r_29 < 0)) h115 h (fun h => ?_) (fun h => ?_)))
  · refine .seq (rg (g0 (jb false) fun h4 => ?_))
    refine gq (.nsq (.ret ?_))
    have hr := Option.some.inj h
    subst hr
    exact rrA (res_tmp h4) rfl
  refine .skip (.nsq (.seq (.seq (rg (gm h14 fun h116 => gm h13 fun h117 => g2 116 117 (jb (r_29 != r_21.1)) h116 h117 fun h118 => ?_)))))
  refine gq (.nsq (run_cond (t := (r_29 != r_21.1)) h118 h (fun h => ?_) (fun h => ?_)))
  · refine .seq (rg (g0 (jb false) fun h4 => ?_))
    refine gq (.nsq (.ret ?_))
    have hr := Option.some.inj h
    subst hr
    exact rrA (res_tmp h4) rfl
  refine .skip (.nsq (.seq (rg (g0 (jb true) fun h4 => ?_))))
  refine gq (.nsq (.ret ?_))
  have hr := Option.some.inj h
  subst hr
  exact rrA (res_tmp h4) rfl
def w_FnExactLayoutOfBags_j2 (F : Nat) (x_2 : (List (List Int))) (x_1 : (Int × (List (Int × Int)))) (r_7 : ((List Int) × Bool)) (r_10 : ((NL Int) × Bool))  (x_20 : Bool) : Option Bool :=
  bif x_20 then
    some false
  else
    (w_markIntS F (On.mk r_10.1 : (On Int)) 1).bind fun r_21 =>
    (remark r_10.1 r_21.2).bind fun m_22 =>
    (w_heldIntS F m_22.list 1).bind fun r_23 =>
    bif decide (r_23 < 0) then
      some false
    else
      bif (r_23 != r_21.1) then
        some false
      else
        (w_toGraph F x_1).bind fun r_24 =>
        (w_toIntSS F x_2).bind fun r_25 =>
        (i_LayoutOfBags_o F r_24 r_25).bind fun r_26 =>
        (w_eqIntS F r_26.1.list r_7.1).bind fun r_30 =>
        bif (!r_30) then
          w_FnExactLayoutOfBags_j1 F m_22 r_21 true
        else
          w_FnExactLayoutOfBags_j1 F m_22 r_21 (r_26.2 != r_7.2)
theorem t_f4_j2 (H : H4 D σ F) (x_2 : (List (List Int))) (x_1 : (Int × (List (Int × Int)))) (r_7 : ((List Int) × Bool)) (r_10 : ((NL Int) × Bool))  (x_20 : Bool) (s : Nat → V) (hs : Facts [(1, (Enc.enc (x_2 : List (List Int)))), (2, (.ref (.bx 2) 0 [] (.agg [(ji x_1.1), (Enc.enc (x_1.2 : List (Int × Int)))]))), (4, (jb false)), (6, (eL r_7.1)), (7, (jb r_7.2)), (10, (oI 10 [0] r_10.1)), (82, (jb x_20))] s) (h : w_FnExactLayoutOfBags_j2 F x_2 x_1 r_7 r_10  x_20 = some r) : Run D σ (R4 r) (.nrm [.sq A4_9, .sq A4_10]) s := by
  unfold w_FnExactLayoutOfBags_j2 at h
  obtain ⟨h1, h2, h4, h6, h7, h10, h82⟩ := hs
  refine .nsq (run_cond (t := x_20) h82 h (fun h => ?_) (fun h => ?_))
  · refine .seq (rg (g0 (jb false) fun h4 => ?_))
    refine gq (.nsq (.ret ?_))
    have hr := Option.some.inj h
    subst hr
    exact rrA (res_tmp h4) rfl
  refine .skip (.nsq (.seq (rg (g0 (ji 1) fun h13 => gq (.nsq (.seq (rg (gv (oI 10 [0] r_10.1) (ev_mov h10 ok_encO) fun h83 => ?_))))))))
  refine gm h13 fun h84 => ?_
  obtain ⟨r_21, E_r_21, h⟩ := bind_some h
  obtain ⟨m_22, E_m_22, h⟩ := bind_some h
  refine g_mark (v := (oI 10 [0] r_10.1)) h83 (canon_own (o := (r_10.1 : (NL Int))) rfl) (rdAll_cons (v := (ji 1)) h84 rfl rdAll_nil) (H.c23 _ _ _ E_r_21) H.g23 rfl rfl (fun s_9 hm_9 => ?_)
  refine gm (rfl : (_ : V) = (ji r_21.1)) fun h13 => ?_
  refine gz [(1, _), (2, (.ref (.bx 2) 0 [] (.agg [(ji x_1.1), (Enc.enc (x_1.2 : List (Int × Int)))]))), (4, (jb false)), (6, _), (7, (jb r_7.2)), (10, (oI 10 [0] m_22)), (13, _)] ⟨(show s_9 1 = (Enc.enc (x_2 : List (List Int))) from hm_9 1 (Enc.enc (x_2 : List (List Int))) (Enc.enc (x_2 : List (List Int))) h1 (rem_enc (xs := (x_2 : List (List Int))))), (show s_9 2 = (.ref (.bx 2) 0 [] (.agg [(ji x_1.1), (Enc.enc (x_1.2 : List (Int × Int)))])) from hm_9 2 (.ref (.bx 2) 0 [] (.agg [(ji x_1.1), (Enc.enc (x_1.2 : List (Int × Int)))])) (.ref (.bx 2) 0 [] (.agg [(ji x_1.1), (Enc.enc (x_1.2 : List (Int × Int)))])) h2 (rem_self _ (map_bx (killO_ne rfl) (map_agg (maps_cons rfl (maps_cons (Enc.map_enc _ (x_1.2 : List (Int × Int))) maps_nil)))))), (show s_9 4 = (jb false) from hm_9 4 (jb false) (jb false) h4 (rem_self _ rfl)), (show s_9 6 = (eL r_7.1) from hm_9 6 (eL r_7.1) (eL r_7.1) h6 (rem_enc (xs := (r_7.1 : List Int)))), (show s_9 7 = (jb r_7.2) from hm_9 7 (jb r_7.2) (jb r_7.2) h7 (rem_self _ rfl)), (show s_9 10 = (oI 10 [0] m_22) from hm_9 10 (oI 10 [0] r_10.1) (oI 10 [0] m_22) h10 (marked_own (o := (r_10.1 : NL Int)) rfl E_m_22)), h13⟩ ?_
  rintro s ⟨h1, h2, h4, h6, h7, h10, h13⟩
  refine .nsq (.seq (rg (g0 (ji 1) fun h14 => gq (.nsq (.seq (rg (gv (oI 10 [0] m_22) (ev_mov h10 ok_encO) fun h86 => ?_)))))))
  refine gm h14 fun h87 => ?_
  obtain ⟨r_23, E_r_23, h⟩ := bind_some h
  refine g_call (m := 0) (al := false) (r := (Enc.enc (r_23 : Int))) [Enc.enc (m_22.list : (List Int)), Enc.enc (1 : Int)] (ta_cons (v := (oI 10 [0] m_22)) h86 ok_encP (erase_encO (o := m_22)) (ta_cons (v := (ji 1)) h87 rfl rfl ta_nil)) (H.c31 _ _ _ E_r_23) H.g31 rfl rfl rfl rfl ?_
  refine gm (rfl : (_ : V) = (ji r_23)) fun h14 => ?_
  refine gq (.nsq (.seq (.seq (rg (gm h14 fun h89 => g1 89 (jb (decide (r_23 < 0))) h89 fun h90 => ?_)))))
  refine gq (.nsq (run_cond (t := decide (r_23 < 0)) h90 h (fun h => ?_) (fun h => ?_)))
  · refine .seq (rg (g0 (jb false) fun h4 => ?_))
    refine gq (.nsq (.ret ?_))
    have hr := Option.some.inj h
    subst hr
    exact rrA (res_tmp h4) rfl
  refine .skip (.nsq (.seq (.seq (rg (gm h14 fun h91 => gm h13 fun h92 => g2 91 92 (jb (r_23 != r_21.1)) h91 h92 fun h93 => ?_)))))
  refine gq (.nsq (run_cond (t := (r_23 != r_21.1)) h93 h (fun h => ?_) (fun h => ?_)))
  · refine .seq (rg (g0 (jb false) fun h4 => ?_))
    refine gq (.nsq (.ret ?_))
    have hr := Option.some.inj h
    subst hr
    exact rrA (res_tmp h4) rfl
  refine .skip (.nsq (.seq (run_reg ?_)))
  refine e_clr ?_
  refine ez [(1, _), (2, _), (4, _), (6, _), (7, _), (10, _), (13, _), (99, _)] ⟨(keep_clear (pk := [99]) h1 rfl me), (keep_clear (pk := [99]) h2 rfl (map_bx rfl (map_agg (maps_cons mi (maps_cons me maps_nil))))), (keep_clear (pk := [99]) h4 rfl mb), (keep_clear (pk := [99]) h6 rfl me), (keep_clear (pk := [99]) h7 rfl mb), (keep_clear (pk := [99]) h10 rfl (map_encO (r := 10) (p := [0]) rfl rfl)), (keep_clear (pk := [99]) h13 rfl mi), (gone_clear (pk := [99]) (t := 99) rfl)⟩ ?_
  rintro s ⟨h1, h2, h4, h6, h7, h10, h13, h99⟩
  refine g1 2 (.agg [(ji x_1.1), (Enc.enc (x_1.2 : List (Int × Int)))]) h2 fun h95 => ?_
  obtain ⟨r_24, E_r_24, h⟩ := bind_some h
  refine g_call (m := 0) (al := true) (r := (Enc.enc (r_24 : (Int × (List (Int × Int)))))) [Enc.enc (x_1 : (Int × (List (Int × Int))))] (ta_cons (v := (.agg [(ji x_1.1), (Enc.enc (x_1.2 : List (Int × Int)))])) h95 rfl (Enc.erase_enc (x_1 : (Int × (List (Int × Int))))) ta_nil) (H.c17 _ _ E_r_24) H.g17 (hal_of (ht_cons (v := (.agg [(ji x_1.1), (Enc.enc (x_1.2 : List (Int × Int)))])) h95 rfl rfl ht_nil)) rfl rfl rfl ?_
  refine gm h1 fun h97 => ?_
  obtain ⟨r_25, E_r_25, h⟩ := bind_some h
  refine g_call (m := 0) (al := true) (r := (Enc.enc (r_25 : (List (List Int))))) [Enc.enc (x_2 : (List (List Int)))] (ta_cons (v := (Enc.enc (x_2 : List (List Int)))) h97 rfl (Enc.erase_enc (x_2 : (List (List Int)))) ta_nil) (H.c27 _ _ E_r_25) H.g27 (hal_of (ht_cons (v := (Enc.enc (x_2 : List (List Int)))) h97 rfl rfl ht_nil)) rfl rfl rfl ?_
  obtain ⟨r_26, E_r_26, h⟩ := bind_some h
  refine g_callO (m := 1) (al := false) (r := (.tup [(encO .sh (r_26.1 : NL Int)), (Enc.enc (r_26.2 : Bool))])) (v := (.tup [(oI 99 [0] r_26.1), (jb r_26.2)])) (kk := 1000000028) [Enc.enc (r_24 : (Int × (List (Int × Int)))), Enc.enc (r_25 : (List (List Int)))] (ta_cons (v := (.agg [(ji r_24.1), (Enc.enc (r_24.2 : List (Int × Int)))])) rfl rfl (Enc.erase_enc (r_24 : (Int × (List (Int × Int))))) (ta_cons (v := (Enc.enc (r_25 : List (List Int)))) rfl rfl (Enc.erase_enc (r_25 : (List (List Int)))) ta_nil)) (H.c28o _ _ _ E_r_26) H.g28o rfl (toks_tup (tokss_cons toks_encS (tokss_cons rfl tokss_nil))) (tag_tup (tags_cons tag_encO (tags_cons rfl tags_nil))) rfl h99 ?_
  refine gm (rfl : (_ : V) = (.tup [(oI 99 [0] r_26.1), (jb r_26.2)])) fun h94 => ?_
  refine gv (oI 99 [0] r_26.1) (ev_extN (v := (oI 99 [0] r_26.1)) h94 rfl ok_encP) fun h100 => ?_
  refine g1 94 (jb r_26.2) h94 fun h101 => ?_
  refine gv (oI 99 [0] r_26.1) (ev_mov h100 ok_encO) fun h15 => ?_
  refine gm h101 fun h16 => g_end ?_
  refine e_home (r := 99) (x := 15) (v := _) h15 ok_encO (fun s_11 hg_11 => ?_)
  refine ez [(4, (jb false)), (6, (eL r_7.1)), (7, (jb r_7.2)), (10, (oI 10 [0] m_22)), (13, (ji r_21.1)), (15, (oI 15 [0] r_26.1)), (16, (jb r_26.2))] ⟨(hg_11 4 _ _ h4 mb), (hg_11 6 _ _ h6 me), (hg_11 7 _ _ h7 mb), (hg_11 10 _ _ h10 (map_encO (r := 10) (p := [0]) rfl rfl)), (hg_11 13 _ _ h13 mi), (hg_11 15 _ _ h15 (map_encO (r := 99) (p := [0]) rfl rfl)), (hg_11 16 _ _ h16 mb)⟩ ?_
  rintro s ⟨h4, h6, h7, h10, h13, h15, h16⟩
  refine .nsq (.seq (.seq (rg (gv (oI 15 [0] r_26.1) (ev_mov h15 ok_encO) fun h102 => ?_))))
  refine gm h6 fun h103 => ?_
  obtain ⟨r_30, E_r_30, h⟩ := bind_some h
  refine g_call (m := 0) (al := false) (r := (Enc.enc (r_30 : Bool))) [Enc.enc (r_26.1.list : (List Int)), Enc.enc (r_7.1 : (List Int))] (ta_cons (v := (oI 15 [0] r_26.1)) h102 ok_encP (erase_encO (o := r_26.1)) (ta_cons (v := (eL r_7.1)) h103 rfl (Enc.erase_enc (r_7.1 : (List Int))) ta_nil)) (H.c21 _ _ _ E_r_30) H.g21 rfl rfl rfl rfl ?_
  refine g1 104 (jb (!r_30)) (rfl : (_ : V) = (jb r_30)) fun h105 => ?_
  refine gm h105 fun h106 => split_on (c := (!r_30)) h (fun hg5 h => ?_) (fun hg5 h => ?_)
  · refine g_no (h106.trans (congrArg V.bool hg5)) ?_
    refine g_no (h106.trans (congrArg V.bool hg5)) ?_
    refine g_no (h106.trans (congrArg V.bool hg5)) ?_
    refine g2 106 109 (jb true) (h106.trans (congrArg V.bool hg5)) (rfl : (_ : V) = (.tup [])) fun h110 => ?_
    refine gq ?_
    exact t_f4_j1 H m_22 r_21 true _ ⟨h4, h10, h13, h110⟩ h
  refine g_yes (h106.trans (congrArg V.bool hg5)) (gm h16 fun h107 => ?_)
  refine g_yes (h106.trans (congrArg V.bool hg5)) (gm h7 fun h108 => ?_)
  refine g_yes (h106.trans (congrArg V.bool hg5)) (g2 107 108 (jb (r_26.2 != r_7.2)) h107 h108 fun h109 => ?_)
  refine g2 106 109 (jb (r_26.2 != r_7.2)) (h106.trans (congrArg V.bool hg5)) h109 fun h110 => ?_
  refine gq ?_
  exact t_f4_j1 H m_22 r_21 (r_26.2 != r_7.2) _ ⟨h4, h10, h13, h110⟩ h
def w_FnExactLayoutOfBags_j3 (F : Nat) (x_2 : (List (List Int))) (x_1 : (Int × (List (Int × Int)))) (r_7 : ((List Int) × Bool)) (r_8 : (Int × (NL (Int × Int)))) (r_9 : (NL (NL Int))) (r_10 : ((NL Int) × Bool))  (x_12 : Bool) : Option Bool :=
  bif x_12 then
    some false
  else
    (w_toGraph F x_1).bind fun r_13 =>
    (w_eqGraph F (r_8.1, r_8.2.list) r_13).bind fun r_14 =>
    bif (!r_14) then
      some false
    else
      (w_toIntSS F x_2).bind fun r_15 =>
      (w_eqIntSS F (List.map NL.list r_9.list) r_15).bind fun r_16 =>
      bif (!r_16) then
        some false
      else
        (w_markGraph F (Og.mk r_8.1 r_8.2 : (Og (Int × Int))) 1).bind fun r_17 =>
        (w_markIntSS F (On2.mk r_9 : (On2 Int)) r_17.1).bind fun r_18 =>
        bif decide (r_18.1 < 0) then
          w_FnExactLayoutOfBags_j2 F x_2 x_1 r_7 r_10 true
        else
          (w_eqIntS F r_10.1.list r_7.1).bind fun r_31 =>
          bif (!r_31) then
            w_FnExactLayoutOfBags_j2 F x_2 x_1 r_7 r_10 true
          else
            w_FnExactLayoutOfBags_j2 F x_2 x_1 r_7 r_10 (r_10.2 != r_7.2)
theorem t_f4_j3 (H : H4 D σ F) (x_2 : (List (List Int))) (x_1 : (Int × (List (Int × Int)))) (r_7 : ((List Int) × Bool)) (r_8 : (Int × (NL (Int × Int)))) (r_9 : (NL (NL Int))) (r_10 : ((NL Int) × Bool))  (x_12 : Bool) (s : Nat → V) (hs : Facts [(1, (Enc.enc (x_2 : List (List Int)))), (2, (.ref (.bx 2) 0 [] (.agg [(ji x_1.1), (Enc.enc (x_1.2 : List (Int × Int)))]))), (4, (jb false)), (6, (eL r_7.1)), (7, (jb r_7.2)), (8, (.ref (.bx 8) 0 [] (.agg [(ji r_8.1), (encO (.at 36 [1]) (r_8.2 : NL (Int × Int)))]))), (9, (encN 9 [] (r_9 : NL (NL Int)))), (10, (oI 10 [0] r_10.1)), (11, (jb r_10.2)), (53, (jb x_12))] s) (h : w_FnExactLayoutOfBags_j3 F x_2 x_1 r_7 r_8 r_9 r_10  x_12 = some r) : Run D σ (R4 r) (.nrm [.sq A4_20, .sq A4_21]) s := by
  unfold w_FnExactLayoutOfBags_j3 at h
  obtain ⟨h1, h2, h4, h6, h7, h8, h9, h10, h11, h53⟩ := hs
  refine .nsq (run_cond (t := x_12) h53 h (fun h => ?_) (fun h => ?_))
  · refine .seq (rg (g0 (jb false) fun h4 => ?_))
    refine gq (.nsq (.ret ?_))
    have hr := Option.some.inj h
    subst hr
    exact rrA (res_tmp h4) rfl
  refine .skip (.nsq (.seq (.seq (rg (gv (.agg [(ji r_8.1), (encO (.at 36 [1]) (r_8.2 : NL (Int × Int)))]) (ev_loadN (c := (.agg [(ji r_8.1), (encO (.at 36 [1]) (r_8.2 : NL (Int × Int)))])) h8 (by simp [V.shape, V.shapes, shape_encP, Sh.beq, Sh.beqs])) fun h54 => ?_)))))
  refine g1 2 (.agg [(ji x_1.1), (Enc.enc (x_1.2 : List (Int × Int)))]) h2 fun h55 => ?_
  obtain ⟨r_13, E_r_13, h⟩ := bind_some h
  refine g_call (m := 0) (al := true) (r := (Enc.enc (r_13 : (Int × (List (Int × Int)))))) [Enc.enc (x_1 : (Int × (List (Int × Int))))] (ta_cons (v := (.agg [(ji x_1.1), (Enc.enc (x_1.2 : List (Int × Int)))])) h55 rfl (Enc.erase_enc (x_1 : (Int × (List (Int × Int))))) ta_nil) (H.c17 _ _ E_r_13) H.g17 (hal_of (ht_cons (v := (.agg [(ji x_1.1), (Enc.enc (x_1.2 : List (Int × Int)))])) h55 rfl rfl ht_nil)) rfl rfl rfl ?_
  obtain ⟨r_14, E_r_14, h⟩ := bind_some h
  refine g_call (m := 0) (al := false) (r := (Enc.enc (r_14 : Bool))) [Enc.enc ((r_8.1, r_8.2.list) : (Int × (List (Int × Int)))), Enc.enc (r_13 : (Int × (List (Int × Int))))] (ta_cons (v := (.agg [(ji r_8.1), (encO (.at 36 [1]) (r_8.2 : NL (Int × Int)))])) h54 rfl (erase_agg (erases_cons rfl (erases_cons (erase_encO (o := r_8.2)) erases_nil))) (ta_cons (v := (.agg [(ji r_13.1), (Enc.enc (r_13.2 : List (Int × Int)))])) rfl rfl (Enc.erase_enc (r_13 : (Int × (List (Int × Int))))) ta_nil)) (H.c20 _ _ _ E_r_14) H.g20 rfl rfl rfl rfl ?_
  refine g1 57 (jb (!r_14)) (rfl : (_ : V) = (jb r_14)) fun h58 => ?_
  refine gq (.nsq (run_cond (t := (!r_14)) h58 h (fun h => ?_) (fun h => ?_)))
  · refine .seq (rg (g0 (jb false) fun h4 => ?_))
    refine gq (.nsq (.ret ?_))
    have hr := Option.some.inj h
    subst hr
    exact rrA (res_tmp h4) rfl
  refine .skip (.nsq (.seq (.seq (rg (gv (encN 9 [] (r_9 : NL (NL Int))) (ev_mov h9 ok_encN) fun h59 => ?_)))))
  refine gm h1 fun h60 => ?_
  obtain ⟨r_15, E_r_15, h⟩ := bind_some h
  refine g_call (m := 0) (al := true) (r := (Enc.enc (r_15 : (List (List Int))))) [Enc.enc (x_2 : (List (List Int)))] (ta_cons (v := (Enc.enc (x_2 : List (List Int)))) h60 rfl (Enc.erase_enc (x_2 : (List (List Int)))) ta_nil) (H.c27 _ _ E_r_15) H.g27 (hal_of (ht_cons (v := (Enc.enc (x_2 : List (List Int)))) h60 rfl rfl ht_nil)) rfl rfl rfl ?_
  obtain ⟨r_16, E_r_16, h⟩ := bind_some h
  refine g_call (m := 0) (al := false) (r := (Enc.enc (r_16 : Bool))) [Enc.enc ((List.map NL.list r_9.list) : (List (List Int))), Enc.enc (r_15 : (List (List Int)))] (ta_cons (v := (encN 9 [] (r_9 : NL (NL Int)))) h59 ok_encN (erase_encN (o := (r_9 : NL (NL Int)))) (ta_cons (v := (Enc.enc (r_15 : List (List Int)))) rfl rfl (Enc.erase_enc (r_15 : (List (List Int)))) ta_nil)) (H.c29 _ _ _ E_r_16) H.g29 rfl rfl rfl rfl ?_
  refine g1 62 (jb (!r_16)) (rfl : (_ : V) = (jb r_16)) fun h63 => ?_
  refine gq (.nsq (run_cond (t := (!r_16)) h63 h (fun h => ?_) (fun h => ?_)))
  · refine .seq (rg (g0 (jb false) fun h4 => ?_))
    refine gq (.nsq (.ret ?_))
    have hr := Option.some.inj h
    subst hr
    exact rrA (res_tmp h4) rfl
  refine .skip (.nsq (.seq (rg (g0 (ji 1) fun h12 => gq (.nsq (.seq (rg (gv (.agg [(ji r_8.1), (encO (.at 36 [1]) (r_8.2 : NL (Int × Int)))]) (ev_loadN (c := (.agg [(ji r_8.1), (encO (.at 36 [1]) (r_8.2 : NL (Int × Int)))])) h8 (by simp [V.shape, V.shapes, shape_encP, Sh.beq, Sh.beqs])) fun h64 => ?_))))))))
  refine gm h12 fun h65 => ?_
  obtain ⟨r_17, E_r_17, h⟩ := bind_some h
  refine g_mark (v := (.agg [(ji r_8.1), (encO (.at 36 [1]) (r_8.2 : NL (Int × Int)))])) h64 (canon_agg (a := r_8.1) (o := (r_8.2 : NL (Int × Int))) rfl) (rdAll_cons (v := (ji 1)) h65 rfl rdAll_nil) (H.c22 _ _ _ E_r_17) H.g22 rfl rfl (fun s_7 hm_7 => ?_)
  refine gm (rfl : (_ : V) = (ji r_17.1)) fun h12 => ?_
  refine gz [(1, _), (2, (.ref (.bx 2) 0 [] (.agg [(ji x_1.1), (Enc.enc (x_1.2 : List (Int × Int)))]))), (4, (jb false)), (6, _), (7, (jb r_7.2)), (9, (encN 9 [] (r_9 : NL (NL Int)))), (10, (oI 10 [0] r_10.1)), (11, (jb r_10.2)), (12, _)] ⟨(show s_7 1 = (Enc.enc (x_2 : List (List Int))) from hm_7 1 (Enc.enc (x_2 : List (List Int))) (Enc.enc (x_2 : List (List Int))) h1 (rem_enc (xs := (x_2 : List (List Int))))), (show s_7 2 = (.ref (.bx 2) 0 [] (.agg [(ji x_1.1), (Enc.enc (x_1.2 : List (Int × Int)))])) from hm_7 2 (.ref (.bx 2) 0 [] (.agg [(ji x_1.1), (Enc.enc (x_1.2 : List (Int × Int)))])) (.ref (.bx 2) 0 [] (.agg [(ji x_1.1), (Enc.enc (x_1.2 : List (Int × Int)))])) h2 (rem_self _ (map_bx (killO_ne rfl) (map_agg (maps_cons rfl (maps_cons (Enc.map_enc _ (x_1.2 : List (Int × Int))) maps_nil)))))), (show s_7 4 = (jb false) from hm_7 4 (jb false) (jb false) h4 (rem_self _ rfl)), (show s_7 6 = (eL r_7.1) from hm_7 6 (eL r_7.1) (eL r_7.1) h6 (rem_enc (xs := (r_7.1 : List Int)))), (show s_7 7 = (jb r_7.2) from hm_7 7 (jb r_7.2) (jb r_7.2) h7 (rem_self _ rfl)), (show s_7 9 = (encN 9 [] (r_9 : NL (NL Int))) from hm_7 9 (encN 9 [] (r_9 : NL (NL Int))) (encN 9 [] (r_9 : NL (NL Int))) h9 (rem_self _ (map_encN (r := 9) (p := []) (killO_ne rfl) (fun _ => killO_ne rfl) (killO_ne rfl)))), (show s_7 10 = (oI 10 [0] r_10.1) from hm_7 10 (oI 10 [0] r_10.1) (oI 10 [0] r_10.1) h10 (rem_self _ (map_encO (r := 10) (p := [0]) (killO_ne rfl) (killO_ne rfl)))), (show s_7 11 = (jb r_10.2) from hm_7 11 (jb r_10.2) (jb r_10.2) h11 (rem_self _ rfl)), h12⟩ ?_
  rintro s ⟨h1, h2, h4, h6, h7, h9, h10, h11, h12⟩
  refine .nsq (.seq (rg (gv (encN 9 [] (r_9 : NL (NL Int))) (ev_mov h9 ok_encN) fun h67 => ?_)))
  refine gm h12 fun h68 => ?_
  obtain ⟨r_18, E_r_18, h⟩ := bind_some h
  refine g_mark (v := (encN 9 [] (r_9 : NL (NL Int)))) h67 (canon_N (o := (r_9 : (NL (NL Int)))) rfl) (rdAll_cons (v := (ji r_17.1)) h68 rfl rdAll_nil) (H.c30 _ _ _ E_r_18) H.g30 rfl rfl (fun s_8 hm_8 => ?_)
  refine gm (rfl : (_ : V) = (ji r_18.1)) fun h12 => ?_
  refine gz [(1, _), (2, (.ref (.bx 2) 0 [] (.agg [(ji x_1.1), (Enc.enc (x_1.2 : List (Int × Int)))]))), (4, (jb false)), (6, _), (7, (jb r_7.2)), (10, (oI 10 [0] r_10.1)), (11, (jb r_10.2)), (12, _)] ⟨(show s_8 1 = (Enc.enc (x_2 : List (List Int))) from hm_8 1 (Enc.enc (x_2 : List (List Int))) (Enc.enc (x_2 : List (List Int))) h1 (rem_enc (xs := (x_2 : List (List Int))))), (show s_8 2 = (.ref (.bx 2) 0 [] (.agg [(ji x_1.1), (Enc.enc (x_1.2 : List (Int × Int)))])) from hm_8 2 (.ref (.bx 2) 0 [] (.agg [(ji x_1.1), (Enc.enc (x_1.2 : List (Int × Int)))])) (.ref (.bx 2) 0 [] (.agg [(ji x_1.1), (Enc.enc (x_1.2 : List (Int × Int)))])) h2 (rem_self _ (map_bx killN_bx (map_agg (maps_cons rfl (maps_cons (Enc.map_enc _ (x_1.2 : List (Int × Int))) maps_nil)))))), (show s_8 4 = (jb false) from hm_8 4 (jb false) (jb false) h4 (rem_self _ rfl)), (show s_8 6 = (eL r_7.1) from hm_8 6 (eL r_7.1) (eL r_7.1) h6 (rem_enc (xs := (r_7.1 : List Int)))), (show s_8 7 = (jb r_7.2) from hm_8 7 (jb r_7.2) (jb r_7.2) h7 (rem_self _ rfl)), (show s_8 10 = (oI 10 [0] r_10.1) from hm_8 10 (oI 10 [0] r_10.1) (oI 10 [0] r_10.1) h10 (rem_self _ (map_encO (r := 10) (p := [0]) (killN_ne rfl) killN_nl))), (show s_8 11 = (jb r_10.2) from hm_8 11 (jb r_10.2) (jb r_10.2) h11 (rem_self _ rfl)), h12⟩ ?_
  rintro s ⟨h1, h2, h4, h6, h7, h10, h11, h12⟩
  refine .nsq (.seq (.seq (rg (gm h12 fun h70 => g1 70 (jb (decide (r_18.1 < 0))) h70 fun h71 => ?_))))
  refine gm h71 fun h72 => split_on (c := decide (r_18.1 < 0)) h (fun hg3 h => ?_) (fun hg3 h => ?_)
  · refine g_no (h72.trans (congrArg V.bool hg3)) ?_
    refine g_no (h72.trans (congrArg V.bool hg3)) ?_
    refine g_no (h72.trans (congrArg V.bool hg3)) ?_
    refine g_no (h72.trans (congrArg V.bool hg3)) ?_
    refine g2 72 76 (jb true) (h72.trans (congrArg V.bool hg3)) (rfl : (_ : V) = (.tup [])) fun h77 => ?_
    refine gm h77 fun h78 => g_no h78 ?_
    refine g_no h78 ?_
    refine g_no h78 ?_
    refine g2 78 81 (jb true) h78 (rfl : (_ : V) = (.tup [])) fun h82 => ?_
    refine gq ?_
    exact t_f4_j2 H x_2 x_1 r_7 r_10 true _ ⟨h1, h2, h4, h6, h7, h10, h82⟩ h
  refine g_yes (h72.trans (congrArg V.bool hg3)) (gv (oI 10 [0] r_10.1) (ev_mov h10 ok_encO) fun h73 => ?_)
  refine g_yes (h72.trans (congrArg V.bool hg3)) (gm h6 fun h74 => ?_)
  obtain ⟨r_31, E_r_31, h⟩ := bind_some h
  refine g_yes (h72.trans (congrArg V.bool hg3)) (g_call (m := 0) (al := false) (r := (Enc.enc (r_31 : Bool))) [Enc.enc (r_10.1.list : (List Int)), Enc.enc (r_7.1 : (List Int))] (ta_cons (v := (oI 10 [0] r_10.1)) h73 ok_encP (erase_encO (o := r_10.1)) (ta_cons (v := (eL r_7.1)) h74 rfl (Enc.erase_enc (r_7.1 : (List Int))) ta_nil)) (H.c21 _ _ _ E_r_31) H.g21 rfl rfl rfl rfl ?_)
  refine g_yes (h72.trans (congrArg V.bool hg3)) (g1 75 (jb (!r_31)) (rfl : (_ : V) = (jb r_31)) fun h76 => ?_)
  refine g2 72 76 (jb (!r_31)) (h72.trans (congrArg V.bool hg3)) h76 fun h77 => ?_
  refine gm h77 fun h78 => split_on (c := (!r_31)) h (fun hg9 h => ?_) (fun hg9 h => ?_)
  · refine g_no (h78.trans (congrArg V.bool hg9)) ?_
    refine g_no (h78.trans (congrArg V.bool hg9)) ?_
    refine g_no (h78.trans (congrArg V.bool hg9)) ?_
    refine g2 78 81 (jb true) (h78.trans (congrArg V.bool hg9)) (rfl : (_ : V) = (.tup [])) fun h82 => ?_
    refine gq ?_
    exact t_f4_j2 H x_2 x_1 r_7 r_10 true _ ⟨h1, h2, h4, h6, h7, h10, h82⟩ h
  refine g_yes (h78.trans (congrArg V.bool hg9)) (gm h11 fun h79 => ?_)
  refine g_yes (h78.trans (congrArg V.bool hg9)) (gm h7 fun h80 => ?_)
  refine g_yes (h78.trans (congrArg V.bool hg9)) (g2 79 80 (jb (r_10.2 != r_7.2)) h79 h80 fun h81 => ?_)
  refine g2 78 81 (jb (r_10.2 != r_7.2)) (h78.trans (congrArg V.bool hg9)) h81 fun h82 => ?_
  refine gq ?_
  exact t_f4_j2 H x_2 x_1 r_7 r_10 (r_10.2 != r_7.2) _ ⟨h1, h2, h4, h6, h7, h10, h82⟩ h
def w_FnExactLayoutOfBags (F : Nat) (x_1 : (Int × (List (Int × Int)))) (x_2 : (List (List Int))) : Option Bool :=
  (w_szGraph F x_1 1048576).bind fun r_3 =>
  bif decide (r_3 < 0) then
    some true
  else
    (w_szIntSS F x_2 r_3).bind fun r_4 =>
    bif decide (r_4 < 0) then
      some true
    else
      (w_toGraph F x_1).bind fun r_5 =>
      (w_toIntSS F x_2).bind fun r_6 =>
      (s_LayoutOfBags F r_5 r_6).bind fun r_7 =>
      (w_toGraph_o F x_1).bind fun r_8 =>
      (w_toIntSS_o F x_2).bind fun r_9 =>
      (i_LayoutOfBags_o F (r_8.1, r_8.2.list) (List.map NL.list r_9.list)).bind fun r_10 =>
      (w_eqIntS F r_10.1.list r_7.1).bind fun r_32 =>
      bif (!r_32) then
        w_FnExactLayoutOfBags_j3 F x_2 x_1 r_7 r_8 r_9 r_10 true
      else
        w_FnExactLayoutOfBags_j3 F x_2 x_1 r_7 r_8 r_9 r_10 (r_10.2 != r_7.2)
theorem t4 (H : H4 D σ F) (x_1 : (Int × (List (Int × Int)))) (x_2 : (List (List Int))) (s : Nat → V) (hs : Facts [(0, (.agg [(ji x_1.1), (Enc.enc (x_1.2 : List (Int × Int)))])), (1, (Enc.enc (x_2 : List (List Int))))] s) (h : w_FnExactLayoutOfBags F x_1 x_2 = some r) : Run D σ (R4 r) (.run A4 []) s := by
  unfold w_FnExactLayoutOfBags at h
  obtain ⟨h0, h1⟩ := hs
  refine .seq (run_reg ?_)
  refine e_clr ?_
  refine ez [(0, _), (1, _), (2, _)] ⟨(keep_clear (pk := [2]) h0 rfl (map_agg (maps_cons mi (maps_cons me maps_nil)))), (keep_clear (pk := [2]) h1 rfl me), (gone_clear (pk := [2]) (t := 2) rfl)⟩ ?_
  rintro s ⟨h0, h1, h2⟩
  refine g_box (.agg [(ji x_1.1), (Enc.enc (x_1.2 : List (Int × Int)))]) (rd_of h0 rfl) h2 rfl ?_
  refine g0 (jb false) fun h4 => ?_
  refine gq (.nsq (.seq (rg (g0 (ji 1048576) fun h5 => gq (.nsq (.seq (rg (g1 2 (.agg [(ji x_1.1), (Enc.enc (x_1.2 : List (Int × Int)))]) (rfl : (_ : V) = (.ref (.bx 2) 0 [] (.agg [(ji x_1.1), (Enc.enc (x_1.2 : List (Int × Int)))]))) fun h17 => ?_))))))))
  refine gm h5 fun h18 => ?_
  obtain ⟨r_3, E_r_3, h⟩ := bind_some h
  refine g_call (m := 0) (al := false) (r := (Enc.enc (r_3 : Int))) [Enc.enc (x_1 : (Int × (List (Int × Int)))), Enc.enc (1048576 : Int)] (ta_cons (v := (.agg [(ji x_1.1), (Enc.enc (x_1.2 : List (Int × Int)))])) h17 rfl (Enc.erase_enc (x_1 : (Int × (List (Int × Int))))) (ta_cons (v := (ji 1048576)) h18 rfl rfl ta_nil)) (H.c15 _ _ _ E_r_3) H.g15 rfl rfl rfl rfl ?_
  refine gm (rfl : (_ : V) = (ji r_3)) fun h5 => ?_
  refine gq (.nsq (.seq (.seq (rg (gm h5 fun h20 => g1 20 (jb (decide (r_3 < 0))) h20 fun h21 => ?_)))))
  refine gq (.nsq (run_cond (t := decide (r_3 < 0)) h21 h (fun h => ?_) (fun h => ?_)))
  · refine .seq (rg (g0 (jb true) fun h4 => ?_))
    refine gq (.nsq (.ret ?_))
    have hr := Option.some.inj h
    subst hr
    exact rrA (res_tmp h4) rfl
  refine .skip (.nsq (.seq (rg (gm h1 fun h22 => gm h5 fun h23 => ?_))))
  obtain ⟨r_4, E_r_4, h⟩ := bind_some h
  refine g_call (m := 0) (al := false) (r := (Enc.enc (r_4 : Int))) [Enc.enc (x_2 : (List (List Int))), Enc.enc (r_3 : Int)] (ta_cons (v := (Enc.enc (x_2 : List (List Int)))) h22 rfl (Enc.erase_enc (x_2 : (List (List Int)))) (ta_cons (v := (ji r_3)) h23 rfl rfl ta_nil)) (H.c25 _ _ _ E_r_4) H.g25 rfl rfl rfl rfl ?_
  refine gm (rfl : (_ : V) = (ji r_4)) fun h5 => ?_
  refine gq (.nsq (.seq (.seq (rg (gm h5 fun h25 => g1 25 (jb (decide (r_4 < 0))) h25 fun h26 => ?_)))))
  refine gq (.nsq (run_cond (t := decide (r_4 < 0)) h26 h (fun h => ?_) (fun h => ?_)))
  · refine .seq (rg (g0 (jb true) fun h4 => ?_))
    refine gq (.nsq (.ret ?_))
    have hr := Option.some.inj h
    subst hr
    exact rrA (res_tmp h4) rfl
  refine .skip (.nsq (.seq (rg (g1 2 (.agg [(ji x_1.1), (Enc.enc (x_1.2 : List (Int × Int)))]) (rfl : (_ : V) = (.ref (.bx 2) 0 [] (.agg [(ji x_1.1), (Enc.enc (x_1.2 : List (Int × Int)))]))) fun h28 => ?_))))
  obtain ⟨r_5, E_r_5, h⟩ := bind_some h
  refine g_call (m := 0) (al := true) (r := (Enc.enc (r_5 : (Int × (List (Int × Int)))))) [Enc.enc (x_1 : (Int × (List (Int × Int))))] (ta_cons (v := (.agg [(ji x_1.1), (Enc.enc (x_1.2 : List (Int × Int)))])) h28 rfl (Enc.erase_enc (x_1 : (Int × (List (Int × Int))))) ta_nil) (H.c17 _ _ E_r_5) H.g17 (hal_of (ht_cons (v := (.agg [(ji x_1.1), (Enc.enc (x_1.2 : List (Int × Int)))])) h28 rfl rfl ht_nil)) rfl rfl rfl ?_
  refine gm h1 fun h30 => ?_
  obtain ⟨r_6, E_r_6, h⟩ := bind_some h
  refine g_call (m := 0) (al := true) (r := (Enc.enc (r_6 : (List (List Int))))) [Enc.enc (x_2 : (List (List Int)))] (ta_cons (v := (Enc.enc (x_2 : List (List Int)))) h30 rfl (Enc.erase_enc (x_2 : (List (List Int)))) ta_nil) (H.c27 _ _ E_r_6) H.g27 (hal_of (ht_cons (v := (Enc.enc (x_2 : List (List Int)))) h30 rfl rfl ht_nil)) rfl rfl rfl ?_
  obtain ⟨r_7, E_r_7, h⟩ := bind_some h
  refine g_call (m := 0) (al := false) (r := (.tup [Enc.enc (r_7.1 : (List Int)), Enc.enc (r_7.2 : Bool)])) [Enc.enc (r_5 : (Int × (List (Int × Int)))), Enc.enc (r_6 : (List (List Int)))] (ta_cons (v := (.agg [(ji r_5.1), (Enc.enc (r_5.2 : List (Int × Int)))])) rfl rfl (Enc.erase_enc (r_5 : (Int × (List (Int × Int))))) (ta_cons (v := (Enc.enc (r_6 : List (List Int)))) rfl rfl (Enc.erase_enc (r_6 : (List (List Int)))) ta_nil)) (H.c26 _ _ _ E_r_7) H.g26 rfl rfl rfl rfl ?_
  refine gm (rfl : (_ : V) = (.tup [(eL r_7.1), (jb r_7.2)])) fun h27 => ?_
  refine g1 27 (eL r_7.1) h27 fun h33 => ?_
  refine g1 27 (jb r_7.2) h27 fun h34 => ?_
  refine gm h33 fun h6 => gm h34 fun h7 => gq (.nsq (.seq (run_reg ?_)))
  refine e_clr ?_
  refine ez [(1, _), (2, _), (4, _), (6, _), (7, _), (8, _), (36, _)] ⟨(keep_clear (pk := [36, 8]) h1 rfl me), (keep_clear (pk := [36, 8]) rfl rfl (map_bx rfl (map_agg (maps_cons mi (maps_cons me maps_nil))))), (keep_clear (pk := [36, 8]) h4 rfl mb), (keep_clear (pk := [36, 8]) h6 rfl me), (keep_clear (pk := [36, 8]) h7 rfl mb), (gone_clear (pk := [36, 8]) (t := 8) rfl), (gone_clear (pk := [36, 8]) (t := 36) rfl)⟩ ?_
  rintro s ⟨h1, h2, h4, h6, h7, h8, h36⟩
  refine g1 2 (.agg [(ji x_1.1), (Enc.enc (x_1.2 : List (Int × Int)))]) h2 fun h35 => ?_
  obtain ⟨r_8, E_r_8, h⟩ := bind_some h
  refine g_callO (m := 1) (al := false) (r := (.agg [(Enc.enc (r_8.1 : Int)), (encO .sh (r_8.2 : NL (Int × Int)))])) (v := (.agg [(ji r_8.1), (encO (.at 36 [1]) (r_8.2 : NL (Int × Int)))])) (kk := 1000000017) [Enc.enc (x_1 : (Int × (List (Int × Int))))] (ta_cons (v := (.agg [(ji x_1.1), (Enc.enc (x_1.2 : List (Int × Int)))])) h35 rfl (Enc.erase_enc (x_1 : (Int × (List (Int × Int))))) ta_nil) (H.c17o _ _ E_r_8) H.g17o rfl (toks_agg (tokss_cons rfl (tokss_cons toks_encS tokss_nil))) (tag_agg (tags_cons rfl (tags_cons tag_encO tags_nil))) rfl h36 ?_
  refine g_alloc h8 ?_
  refine g_store (.agg [(ji r_8.1), (encO (.at 36 [1]) (r_8.2 : NL (Int × Int)))]) (rd_of rfl rfl) (rd_of rfl rfl) ⟨by decide, by decide, rfl, (by simp [V.shape, V.shapes, shape_encP, Sh.beq, Sh.beqs]), (by simp [V.shape, V.shapes, shape_encP, Sh.beq, Sh.beqs]), (by simp [V.toks, V.tokss, tok_memP])⟩ ?_
  refine gz [(1, (Enc.enc (x_2 : List (List Int)))), (2, (.ref (.bx 2) 0 [] (.agg [(ji x_1.1), (Enc.enc (x_1.2 : List (Int × Int)))]))), (4, (jb false)), (6, (eL r_7.1)), (7, (jb r_7.2)), (8, (.ref (.bx 8) 0 [] (.agg [(ji r_8.1), (encO (.at 36 [1]) (r_8.2 : NL (Int × Int)))])))] ⟨(keep_mut h1 (Enc.mut_enc _ _ _ _ (x_2 : List (List Int)))), (keep_mut h2 (mut_ref_ne rfl rfl (mut_agg (muts_cons rfl (muts_cons (Enc.mut_enc _ _ _ _ (x_1.2 : List (Int × Int))) rfl))))), (keep_mut h4 rfl), (keep_mut h6 (Enc.mut_enc _ _ _ _ (r_7.1 : List Int))), (keep_mut h7 rfl), (keep_mut rfl rfl)⟩ ?_
  rintro s ⟨h1, h2, h4, h6, h7, h8⟩
  refine .nsq (.seq (run_reg ?_))
  refine e_clr ?_
  refine ez [(1, _), (2, _), (4, _), (6, _), (7, _), (8, _), (38, _)] ⟨(keep_clear (pk := [38]) h1 rfl me), (keep_clear (pk := [38]) h2 rfl (map_bx rfl (map_agg (maps_cons mi (maps_cons me maps_nil))))), (keep_clear (pk := [38]) h4 rfl mb), (keep_clear (pk := [38]) h6 rfl me), (keep_clear (pk := [38]) h7 rfl mb), (keep_clear (pk := [38]) h8 rfl (map_bx rfl (map_agg (maps_cons mi (maps_cons (map_encO (r := 36) (p := [1]) rfl rfl) maps_nil))))), (gone_clear (pk := [38]) (t := 38) rfl)⟩ ?_
  rintro s ⟨h1, h2, h4, h6, h7, h8, h38⟩
  refine gm h1 fun h37 => ?_
  obtain ⟨r_9, E_r_9, h⟩ := bind_some h
  refine g_callO (m := 2) (al := false) (r := (encNs (r_9 : NL (NL Int)))) (v := (encN 38 [] (r_9 : NL (NL Int)))) (kk := 1000000027) [Enc.enc (x_2 : (List (List Int)))] (ta_cons (v := (Enc.enc (x_2 : List (List Int)))) h37 rfl (Enc.erase_enc (x_2 : (List (List Int)))) ta_nil) (H.c27o _ _ E_r_9) H.g27o rfl toks_encNs (tag_encN rfl) ok_encN h38 ?_
  refine gv (encN 38 [] (r_9 : NL (NL Int))) (ev_mov rfl ok_encN) fun h9 => ?_
  refine g_end ?_
  refine e_home (r := 38) (x := 9) (v := _) h9 ok_encN (fun s_4 hg_4 => ?_)
  refine ez [(1, (Enc.enc (x_2 : List (List Int)))), (2, (.ref (.bx 2) 0 [] (.agg [(ji x_1.1), (Enc.enc (x_1.2 : List (Int × Int)))]))), (4, (jb false)), (6, (eL r_7.1)), (7, (jb r_7.2)), (8, (.ref (.bx 8) 0 [] (.agg [(ji r_8.1), (encO (.at 36 [1]) (r_8.2 : NL (Int × Int)))]))), (9, (encN 9 [] (r_9 : NL (NL Int))))] ⟨(hg_4 1 _ _ h1 me), (hg_4 2 _ _ h2 (map_bx rfl (map_agg (maps_cons mi (maps_cons me maps_nil))))), (hg_4 4 _ _ h4 mb), (hg_4 6 _ _ h6 me), (hg_4 7 _ _ h7 mb), (hg_4 8 _ (.ref (.bx 8) 0 [] (.agg [(ji r_8.1), (encO (.at 36 [1]) (r_8.2 : NL (Int × Int)))])) h8 (map_bx rfl (map_agg (maps_cons mi (maps_cons (map_encO (r := 36) (p := [1]) rfl rfl) maps_nil))))), (hg_4 9 _ _ h9 (map_encN (r := 38) (p := []) rfl (fun _ => rfl) rfl))⟩ ?_
  rintro s ⟨h1, h2, h4, h6, h7, h8, h9⟩
  refine .nsq (.seq (run_reg ?_))
  refine e_clr ?_
  refine ez [(1, _), (2, _), (4, _), (6, _), (7, _), (8, _), (9, _), (42, _)] ⟨(keep_clear (pk := [42]) h1 rfl me), (keep_clear (pk := [42]) h2 rfl (map_bx rfl (map_agg (maps_cons mi (maps_cons me maps_nil))))), (keep_clear (pk := [42]) h4 rfl mb), (keep_clear (pk := [42]) h6 rfl me), (keep_clear (pk := [42]) h7 rfl mb), (keep_clear (pk := [42]) h8 rfl (map_bx rfl (map_agg (maps_cons mi (maps_cons (map_encO (r := 36) (p := [1]) rfl rfl) maps_nil))))), (keep_clear (pk := [42]) h9 rfl (map_encN (r := 9) (p := []) rfl (fun _ => rfl) rfl)), (gone_clear (pk := [42]) (t := 42) rfl)⟩ ?_
  rintro s ⟨h1, h2, h4, h6, h7, h8, h9, h42⟩
  refine gv (.agg [(ji r_8.1), (encO (.at 36 [1]) (r_8.2 : NL (Int × Int)))]) (ev_loadN (c := (.agg [(ji r_8.1), (encO (.at 36 [1]) (r_8.2 : NL (Int × Int)))])) h8 (by simp [V.shape, V.shapes, shape_encP, Sh.beq, Sh.beqs])) fun h40 => ?_
  refine gv (encN 9 [] (r_9 : NL (NL Int))) (ev_mov h9 ok_encN) fun h41 => ?_
  obtain ⟨r_10, E_r_10, h⟩ := bind_some h
  refine g_callO (m := 1) (al := false) (r := (.tup [(encO .sh (r_10.1 : NL Int)), (Enc.enc (r_10.2 : Bool))])) (v := (.tup [(oI 42 [0] r_10.1), (jb r_10.2)])) (kk := 1000000028) [Enc.enc ((r_8.1, r_8.2.list) : (Int × (List (Int × Int)))), Enc.enc ((List.map NL.list r_9.list) : (List (List Int)))] (ta_cons (v := (.agg [(ji r_8.1), (encO (.at 36 [1]) (r_8.2 : NL (Int × Int)))])) h40 rfl (erase_agg (erases_cons rfl (erases_cons (erase_encO (o := r_8.2)) erases_nil))) (ta_cons (v := (encN 9 [] (r_9 : NL (NL Int)))) h41 ok_encN (erase_encN (o := (r_9 : NL (NL Int)))) ta_nil)) (H.c28o _ _ _ E_r_10) H.g28o rfl (toks_tup (tokss_cons toks_encS (tokss_cons rfl tokss_nil))) (tag_tup (tags_cons tag_encO (tags_cons rfl tags_nil))) rfl h42 ?_
  refine gm (rfl : (_ : V) = (.tup [(oI 42 [0] r_10.1), (jb r_10.2)])) fun h39 => ?_
  refine gv (oI 42 [0] r_10.1) (ev_extN (v := (oI 42 [0] r_10.1)) h39 rfl ok_encP) fun h43 => ?_
  refine g1 39 (jb r_10.2) h39 fun h44 => ?_
  refine gv (oI 42 [0] r_10.1) (ev_mov h43 ok_encO) fun h10 => ?_
  refine gm h44 fun h11 => g_end ?_
  refine e_home (r := 42) (x := 10) (v := _) h10 ok_encO (fun s_6 hg_6 => ?_)
  refine ez [(1, (Enc.enc (x_2 : List (List Int)))), (2, (.ref (.bx 2) 0 [] (.agg [(ji x_1.1), (Enc.enc (x_1.2 : List (Int × Int)))]))), (4, (jb false)), (6, (eL r_7.1)), (7, (jb r_7.2)), (8, (.ref (.bx 8) 0 [] (.agg [(ji r_8.1), (encO (.at 36 [1]) (r_8.2 : NL (Int × Int)))]))), (9, (encN 9 [] (r_9 : NL (NL Int)))), (10, (oI 10 [0] r_10.1)), (11, (jb r_10.2))] ⟨(hg_6 1 _ _ h1 me), (hg_6 2 _ _ h2 (map_bx rfl (map_agg (maps_cons mi (maps_cons me maps_nil))))), (hg_6 4 _ _ h4 mb), (hg_6 6 _ _ h6 me), (hg_6 7 _ _ h7 mb), (hg_6 8 _ (.ref (.bx 8) 0 [] (.agg [(ji r_8.1), (encO (.at 36 [1]) (r_8.2 : NL (Int × Int)))])) h8 (map_bx rfl (map_agg (maps_cons mi (maps_cons (map_encO (r := 36) (p := [1]) rfl rfl) maps_nil))))), (hg_6 9 _ _ h9 (map_encN (r := 9) (p := []) rfl (fun _ => rfl) rfl)), (hg_6 10 _ _ h10 (map_encO (r := 42) (p := [0]) rfl rfl)), (hg_6 11 _ _ h11 mb)⟩ ?_
  rintro s ⟨h1, h2, h4, h6, h7, h8, h9, h10, h11⟩
  refine .nsq (.seq (.seq (rg (gv (oI 10 [0] r_10.1) (ev_mov h10 ok_encO) fun h45 => ?_))))
  refine gm h6 fun h46 => ?_
  obtain ⟨r_32, E_r_32, h⟩ := bind_some h
  refine g_call (m := 0) (al := false) (r := (Enc.enc (r_32 : Bool))) [Enc.enc (r_10.1.list : (List Int)), Enc.enc (r_7.1 : (List Int))] (ta_cons (v := (oI 10 [0] r_10.1)) h45 ok_encP (erase_encO (o := r_10.1)) (ta_cons (v := (eL r_7.1)) h46 rfl (Enc.erase_enc (r_7.1 : (List Int))) ta_nil)) (H.c21 _ _ _ E_r_32) H.g21 rfl rfl rfl rfl ?_
  refine g1 47 (jb (!r_32)) (rfl : (_ : V) = (jb r_32)) fun h48 => ?_
  refine gm h48 fun h49 => split_on (c := (!r_32)) h (fun hg5 h => ?_) (fun hg5 h => ?_)
  · refine g_no (h49.trans (congrArg V.bool hg5)) ?_
    refine g_no (h49.trans (congrArg V.bool hg5)) ?_
    refine g_no (h49.trans (congrArg V.bool hg5)) ?_
    refine g2 49 52 (jb true) (h49.trans (congrArg V.bool hg5)) (rfl : (_ : V) = (.tup [])) fun h53 => ?_
    refine gq ?_
    exact t_f4_j3 H x_2 x_1 r_7 r_8 r_9 r_10 true _ ⟨h1, h2, h4, h6, h7, h8, h9, h10, h11, h53⟩ h
  refine g_yes (h49.trans (congrArg V.bool hg5)) (gm h11 fun h50 => ?_)
  refine g_yes (h49.trans (congrArg V.bool hg5)) (gm h7 fun h51 => ?_)
  refine g_yes (h49.trans (congrArg V.bool hg5)) (g2 50 51 (jb (r_10.2 != r_7.2)) h50 h51 fun h52 => ?_)
  refine g2 49 52 (jb (r_10.2 != r_7.2)) (h49.trans (congrArg V.bool hg5)) h52 fun h53 => ?_
  refine gq ?_
  exact t_f4_j3 H x_2 x_1 r_7 r_8 r_9 r_10 (r_10.2 != r_7.2) _ ⟨h1, h2, h4, h6, h7, h8, h9, h10, h11, h53⟩ h
end
def e4 (F : Nat) : Ent := ent 4 (fun (x : ((Int × (List (Int × Int))) × (List (List Int)) × Unit)) => w_FnExactLayoutOfBags F x.1 x.2.1) (fun (r : Bool) => (Enc.enc (r : Bool))) 0 false []
theorem p4 {F : Nat} {x0 : (Int × (List (Int × Int)))} {x1 : (List (List Int))} {r : Bool} (h : w_FnExactLayoutOfBags F x0 x1 = some r) : (e4 F).den [Enc.enc x0, Enc.enc x1] = some (Enc.enc (r : Bool)) := ent_put (x0, x1, ()) h
theorem o4 {D : Den} {σ : Sig} {F : Nat} (hF : Fits2 Try.prog D σ) (H : H4 D σ F) : (e4 F).Ok Try.prog := by
  refine ok_of (f := 4) (show unk 4 = 4 from rfl) (fun args r h => ?_) ⟨Try.f4, Try.func4, rfl, rfl⟩
  obtain ⟨⟨x0, x1, _⟩, y, rfl, hy, rfl⟩ := da_open h
  exact contract_run hF (by kernel_rfl) Try.func4 rfl c4 (show 2 ≤ Try.f4.ntmps by decide) (t4 H x0 x1 _ ⟨rfl, rfl⟩ hy)
end Go.Zq
