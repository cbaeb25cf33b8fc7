/- Functions of the program as typed functions, and that the machine runs as they say (part 3). No further condition. -/
import Derived.Test.YtdhbhaaiohkpdaaK3
import Derived.Test.YtdhbhaaiohkpdaaKC
import Derived.Test.YtdhbhaaiohkpdaaProg
import Derived.Test.YtdhbhaaiohkpdaaChecked
import Derived.KernelRfl
import Derived.Test.YtdhbhaaiohkpdaaG2
set_option linter.unusedVariables false
set_option linter.unusedSimpArgs false
/- Functions of the program, as typed functions, and that the machine runs as they say. -/
namespace Go.Zq
open Go.Proofs Go.Shelf
/- loop.example/g01109/laws.FnExactFillingOf -/
def A3_1 : AC := (.cond (.t 108) (.seq (.reg [] [((jv 4 (.mov (.k (.bool false)))))] []) .ret) .skip)
def A3_5 : AC := (.cond (.t 113) (.seq (.reg [] [((jv 4 (.mov (.k (.bool false)))))] []) .ret) .skip)
def A3_7 : AC := (.cond (.t 116) (.seq (.reg [] [((jv 4 (.mov (.k (.bool false)))))] []) .ret) .skip)
def A3_8 : AC := (.seq (.reg [] [((jv 4 (.mov (.k (.bool true)))))] []) .ret)
def A3_6 : AC := (.seq (.seq (.reg [] [(jm 114 14), (jm 115 13), ((jv 116 (.bin .neq (.t 114) (.t 115))))] []) A3_7) A3_8)
def A3_4 : AC := (.seq (.seq (.reg [] [(jm 112 14), ((jv 113 (.bin .lss (.t 112) (jn 0))))] []) A3_5) A3_6)
def A3_3 : AC := (.seq (.reg [] [((jv 109 (.load (.ag [.s, .p]) (.t 10)))), (jm 110 14), (.mk (some 111) none false (.call (.k (.fn 24 [] [])) [(.t 109), (.t 110)])), (jm 14 111)] []) A3_4)
def A3_2 : AC := (.seq (.reg [] [((jv 14 (.mov (jn 1))))] []) A3_3)
def A3_9 : AC := (.cond (.t 80) (.seq (.reg [] [((jv 4 (.mov (.k (.bool false)))))] []) .ret) .skip)
def A3_15 : AC := (.cond (.t 88) (.seq (.reg [] [((jv 4 (.mov (.k (.bool false)))))] []) .ret) .skip)
def A3_17 : AC := (.cond (.t 91) (.seq (.reg [] [((jv 4 (.mov (.k (.bool false)))))] []) .ret) .skip)
def A3_19 : AC := (.seq (.seq (.reg [] [((jv 100 (.load (.ag [.s, .p]) (.t 15)))), ((jv 101 (.load (.ag [.s, .p]) (.t 6)))), (.mk (some 102) none false (.call (.k (.fn 20 [] [])) [(.t 100), (.t 101)])), ((jv 103 (.un .not (.t 102)))), (jm 104 103), ((jg 105 104 false (.mov (.t 16)))), ((jg 106 104 false (.mov (.t 7)))), ((jg 107 104 false (.beq true (.t 105) (.t 106)))), ((jv 108 (.pick (.t 104) (.k (.bool true)) (.t 107))))] []) A3_1) A3_2)
def A3_18 : AC := (.seq (.reg [.clr [97, 15]] [((jv 93 (.load (.ag [.s, .p]) (.t 2)))), (.mk (some 94) none false (.call (.k (.fn 17 [] [])) [(.t 93)])), (jm 95 1), (.mk (some 96) none false (.call (.k (.fn 18 [] [])) [(.t 95)])), (.mk (some 97) none false (.callO (.k (.fn 19 [] [])) [(.t 94), (.t 96)])), (jm 92 97), ((jv 98 (.ext (.t 92) 0))), ((jv 99 (.extS (.t 92) 1))), (.mk (some 15) none false (.alloc (.agg [(.int .i64 (.ofNat 0)), (.sl .nl (.ag [.s, .s]) 0 [])]))), (.mk none none false (.store (.ag [.s, .p]) (.t 15) (.t 98))), (jm 16 99)] []) A3_19)
def A3_16 : AC := (.seq (.seq (.reg [] [(jm 89 14), (jm 90 13), ((jv 91 (.bin .neq (.t 89) (.t 90))))] []) A3_17) A3_18)
def A3_14 : AC := (.seq (.seq (.reg [] [(jm 87 14), ((jv 88 (.bin .lss (.t 87) (jn 0))))] []) A3_15) A3_16)
def A3_13 : AC := (.seq (.reg [] [((jv 84 (.load (.ag [.s, .p]) (.t 10)))), (jm 85 14), (.mk (some 86) none false (.call (.k (.fn 24 [] [])) [(.t 84), (.t 85)])), (jm 14 86)] []) A3_14)
def A3_12 : AC := (.seq (.reg [] [((jv 14 (.mov (jn 1))))] []) A3_13)
def A3_11 : AC := (.seq (.reg [] [((jv 81 (.load (.ag [.s, .p]) (.t 10)))), (jm 82 13), (.mk (some 83) none false (.mark (.k (.fn 22 [] [])) [(.t 81), (.t 82)])), (jm 13 83)] []) A3_12)
def A3_10 : AC := (.seq (.reg [] [((jv 13 (.mov (jn 1))))] []) A3_11)
def A3_20 : AC := (.cond (.t 51) (.seq (.reg [] [((jv 4 (.mov (.k (.bool false)))))] []) .ret) .skip)
def A3_22 : AC := (.cond (.t 56) (.seq (.reg [] [((jv 4 (.mov (.k (.bool false)))))] []) .ret) .skip)
def A3_24 : AC := (.cond (.t 61) (.seq (.reg [] [((jv 4 (.mov (.k (.bool false)))))] []) .ret) .skip)
def A3_28 : AC := (.seq (.seq (.reg [] [(jm 68 12), ((jv 69 (.bin .lss (.t 68) (jn 0)))), (jm 70 69), ((jg 71 70 false (.load (.ag [.s, .p]) (.t 10)))), ((jg 72 70 false (.load (.ag [.s, .p]) (.t 6)))), (.mk (some 73) (some (70, false)) false (.call (.k (.fn 20 [] [])) [(.t 71), (.t 72)])), ((jg 74 70 false (.un .not (.t 73)))), ((jv 75 (.pick (.t 70) (.k (.bool true)) (.t 74)))), (jm 76 75), ((jg 77 76 false (.mov (.t 11)))), ((jg 78 76 false (.mov (.t 7)))), ((jg 79 76 false (.beq true (.t 77) (.t 78)))), ((jv 80 (.pick (.t 76) (.k (.bool true)) (.t 79))))] []) A3_9) A3_10)
def A3_27 : AC := (.seq (.reg [] [(jm 65 9), (jm 66 12), (.mk (some 67) none false (.mark (.k (.fn 23 [] [])) [(.t 65), (.t 66)])), (jm 12 67)] []) A3_28)
def A3_26 : AC := (.seq (.reg [] [((jv 62 (.load (.ag [.s, .p]) (.t 8)))), (jm 63 12), (.mk (some 64) none false (.mark (.k (.fn 22 [] [])) [(.t 62), (.t 63)])), (jm 12 64)] []) A3_27)
def A3_25 : AC := (.seq (.reg [] [((jv 12 (.mov (jn 1))))] []) A3_26)
def A3_23 : AC := (.seq (.seq (.reg [] [(jm 57 9), (jm 58 1), (.mk (some 59) none false (.call (.k (.fn 18 [] [])) [(.t 58)])), (.mk (some 60) none false (.call (.k (.fn 21 [] [])) [(.t 57), (.t 59)])), ((jv 61 (.un .not (.t 60))))] []) A3_24) A3_25)
def A3_21 : AC := (.seq (.seq (.reg [] [((jv 52 (.load (.ag [.s, .p]) (.t 8)))), ((jv 53 (.load (.ag [.s, .p]) (.t 2)))), (.mk (some 54) none false (.call (.k (.fn 17 [] [])) [(.t 53)])), (.mk (some 55) none false (.call (.k (.fn 20 [] [])) [(.t 52), (.t 54)])), ((jv 56 (.un .not (.t 55))))] []) A3_22) A3_23)
def A3_30 : AC := (.cond (.t 19) (.seq (.reg [] [((jv 4 (.mov (.k (.bool true)))))] []) .ret) .skip)
def A3_34 : AC := (.cond (.t 24) (.seq (.reg [] [((jv 4 (.mov (.k (.bool true)))))] []) .ret) .skip)
def A3_39 : AC := (.seq (.seq (.reg [] [((jv 43 (.load (.ag [.s, .p]) (.t 10)))), ((jv 44 (.load (.ag [.s, .p]) (.t 6)))), (.mk (some 45) none false (.call (.k (.fn 20 [] [])) [(.t 43), (.t 44)])), ((jv 46 (.un .not (.t 45)))), (jm 47 46), ((jg 48 47 false (.mov (.t 11)))), ((jg 49 47 false (.mov (.t 7)))), ((jg 50 47 false (.beq true (.t 48) (.t 49)))), ((jv 51 (.pick (.t 47) (.k (.bool true)) (.t 50))))] []) A3_20) A3_21)
def A3_38 : AC := (.seq (.reg [.clr [40, 10]] [((jv 38 (.load (.ag [.s, .p]) (.t 8)))), (jm 39 9), (.mk (some 40) none false (.callO (.k (.fn 19 [] [])) [(.t 38), (.t 39)])), (jm 37 40), ((jv 41 (.ext (.t 37) 0))), ((jv 42 (.extS (.t 37) 1))), (.mk (some 10) none false (.alloc (.agg [(.int .i64 (.ofNat 0)), (.sl .nl (.ag [.s, .s]) 0 [])]))), (.mk none none false (.store (.ag [.s, .p]) (.t 10) (.t 41))), (jm 11 42)] []) A3_39)
def A3_37 : AC := (.seq (.reg [.clr [36]] [(jm 35 1), (.mk (some 36) none false (.callO (.k (.fn 18 [] [])) [(.t 35)])), (jm 9 36)] [.home 36 9]) A3_38)
def A3_36 : AC := (.seq (.reg [.clr [34, 8]] [((jv 33 (.load (.ag [.s, .p]) (.t 2)))), (.mk (some 34) none false (.callO (.k (.fn 17 [] [])) [(.t 33)])), (.mk (some 8) none false (.alloc (.agg [(.int .i64 (.ofNat 0)), (.sl .nl (.ag [.s, .s]) 0 [])]))), (.mk none none false (.store (.ag [.s, .p]) (.t 8) (.t 34)))] []) A3_37)
def A3_35 : AC := (.seq (.reg [.clr [6]] [((jv 26 (.load (.ag [.s, .p]) (.t 2)))), (.mk (some 27) none false (.call (.k (.fn 17 [] [])) [(.t 26)])), (jm 28 1), (.mk (some 29) none false (.call (.k (.fn 18 [] [])) [(.t 28)])), (.mk (some 30) none false (.call (.k (.fn 16 [] [])) [(.t 27), (.t 29)])), (jm 25 30), ((jv 31 (.ext (.t 25) 0))), ((jv 32 (.extS (.t 25) 1))), (.mk (some 6) none false (.alloc (.agg [(.int .i64 (.ofNat 0)), (.sl .nl (.ag [.s, .s]) 0 [])]))), (.mk none none false (.store (.ag [.s, .p]) (.t 6) (.t 31))), (jm 7 32)] []) A3_36)
def A3_33 : AC := (.seq (.seq (.reg [] [(jm 23 5), ((jv 24 (.bin .lss (.t 23) (jn 0))))] []) A3_34) A3_35)
def A3_32 : AC := (.seq (.reg [] [((jv 20 (.load (.ag [.s, .p]) (.t 2)))), (jm 21 5), (.mk (some 22) none false (.call (.k (.fn 15 [] [])) [(.t 20), (.t 21)])), (jm 5 22)] []) A3_33)
def A3_31 : AC := (.seq (.reg [] [((jv 5 (.mov (jn 1048576))))] []) A3_32)
def A3_29 : AC := (.seq (.seq (.reg [] [(jm 17 1), ((jv 18 (.len (.t 17)))), ((jv 19 (.bin .gtr (.t 18) (jn 1048576))))] []) A3_30) A3_31)
def A3 : AC := (.seq (.reg [.clr [2]] [(.mk (some 2) none false (.box (.t 0))), ((jv 4 (.mov (.k (.bool false)))))] []) A3_29)
def an3 : List An := [{ id := 0, pre := [.clr [2]], ep := [], lin := [], sp := [] }, { id := 7, pre := [.clr [6]], ep := [], lin := [], sp := [] }, { id := 8, pre := [.clr [34, 8]], ep := [], lin := [], sp := [1001] }, { id := 9, pre := [.clr [36]], ep := [.home 36 9], lin := [], sp := [1001] }, { id := 10, pre := [.clr [40, 10]], ep := [], lin := [], sp := [1002] }, { id := 18, pre := [], ep := [], lin := [], sp := [2] }, { id := 19, pre := [], ep := [], lin := [], sp := [2] }, { id := 23, pre := [], ep := [], lin := [], sp := [2] }, { id := 30, pre := [.clr [97, 15]], ep := [], lin := [], sp := [1004] }]
theorem c3 : cC Try.prog Try.f3.ntmps an3 (Try.f3.body.getD .skip) = some A3 := by kernel_rfl
structure H3 (D : Den) (σ : Sig) (F : Nat) : Prop where
  c15 : ∀ (x0 : (Int × (List (Int × Int)))) (x1 : Int) r, w_szGraph F x0 x1 = some r → D 15 [Enc.enc x0, Enc.enc x1] = some (Enc.enc (r : Int))
  g15 : σ 15 = some (0, false)
  c17 : ∀ (x0 : (Int × (List (Int × Int)))) r, w_toGraph F x0 = some r → D 17 [Enc.enc x0] = some (Enc.enc (r : (Int × (List (Int × Int)))))
  g17 : σ 17 = some (0, true)
  c18 : ∀ (x0 : (List Int)) r, w_toIntS F x0 = some r → D 18 [Enc.enc x0] = some (Enc.enc (r : (List Int)))
  g18 : σ 18 = some (0, false)
  c16 : ∀ (x0 : (Int × (List (Int × Int)))) (x1 : (List Int)) r, s_FillingOf F x0 x1 = some r → D 16 [Enc.enc x0, Enc.enc x1] = some (.tup [Enc.enc (r.1 : (Int × (List (Int × Int)))), Enc.enc (r.2 : Bool)])
  g16 : σ 16 = some (0, true)
  c17o : ∀ (x0 : (Int × (List (Int × Int)))) r, w_toGraph_o F x0 = some r → D 1000000017 [Enc.enc x0] = some (.agg [(Enc.enc (r.1 : Int)), (encO .sh (r.2 : NL (Int × Int)))])
  g17o : σ 1000000017 = some (1, false)
  c18o : ∀ (x0 : (List Int)) r, w_toIntS_o F x0 = some r → D 1000000018 [Enc.enc x0] = some (encO .sh (r : NL Int))
  g18o : σ 1000000018 = some (1, false)
  c19o : ∀ (x0 : (Int × (List (Int × Int)))) (x1 : (List Int)) r, i_FillingOf_o F x0 x1 = some r → D 1000000019 [Enc.enc x0, Enc.enc x1] = some (.tup [(.agg [(Enc.enc (r.1.1 : Int)), (encO .sh (r.1.2 : NL (Int × Int)))]), (Enc.enc (r.2 : Bool))])
  g19o : σ 1000000019 = some (1, false)
  c20 : ∀ (x0 : (Int × (List (Int × Int)))) (x1 : (Int × (List (Int × Int)))) r, w_eqGraph F x0 x1 = some r → D 20 [Enc.enc x0, Enc.enc x1] = some (Enc.enc (r : Bool))
  g20 : σ 20 = some (0, false)
  c21 : ∀ (x0 : (List Int)) (x1 : (List Int)) r, w_eqIntS F x0 x1 = some r → D 21 [Enc.enc x0, Enc.enc x1] = some (Enc.enc (r : Bool))
  g21 : σ 21 = some (0, false)
  c22 : ∀ (x0 : (Og (Int × Int))) (x1 : Int) r, w_markGraph F x0 x1 = some r → D 22 [Arg.arg x0, Enc.enc x1] = some (.tup [Enc.enc (r.1 : Int), .agg [Enc.enc (r.2.a : Int), encO (.at pinR [1]) (r.2.v : NL (Int × Int))]])
  g22 : σ 22 = some (pinR, false)
  c23 : ∀ (x0 : (On Int)) (x1 : Int) r, w_markIntS F x0 x1 = some r → D 23 [Arg.arg x0, Enc.enc x1] = some (.tup [Enc.enc (r.1 : Int), encO (.at pinR []) (r.2 : NL Int)])
  g23 : σ 23 = some (pinR, false)
  c24 : ∀ (x0 : (Int × (List (Int × Int)))) (x1 : Int) r, w_heldGraph F x0 x1 = some r → D 24 [Enc.enc x0, Enc.enc x1] = some (Enc.enc (r : Int))
  g24 : σ 24 = some (0, false)
abbrev R3 (r : Bool) : (Nat → V) → Prop := RR Try.prog [.tmp 4] 0 false (Enc.enc (r : Bool))
section
variable {D : Den} {σ : Sig} {F : Nat} {r : Bool}
def w_FnExactFillingOf_j1 (F : Nat) (r_9 : ((Int × (NL (Int × Int))) × Bool)) (m_21 : (NL (Int × Int))) (r_20 : (Int × (Og (Int × Int))))  (x_27 : Bool) : Option Bool :=
  bif x_27 then
    some false
  else
    (w_heldGraph F (r_9.1.1, m_21.list) 1).bind fun r_28 =>
    bif decide (r_28 < 0) then
      some false
    else
      bif (r_28 != r_20.1) then
        some false
      else
        some true
theorem t_f3_j1 (H : H3 D σ F) (r_9 : ((Int × (NL (Int × Int))) × Bool)) (m_21 : (NL (Int × Int))) (r_20 : (Int × (Og (Int × Int))))  (x_27 : Bool) (s : Nat → V) (hs : Facts [(4, (jb false)), (10, (.ref (.bx 10) 0 [] (.agg [(ji r_9.1.1), (encO (.at 40 [0, 1]) (m_21 : NL (Int × Int)))]))), (13, (ji r_20.1)), (108, (jb x_27))] s) (h : w_FnExactFillingOf_j1 F r_9 m_21 r_20  x_27 = some r) : Run D σ (R3 r) (.nrm [.sq A3_1, .sq A3_2]) s := by
  unfold w_FnExactFillingOf_j1 at h
  obtain ⟨h4, h10, h13, h108⟩ := hs
  refine .nsq (run_cond (t := x_27) h108 h (fun h => ?_) (fun h => ?_))
  · refine .seq (rg (g0 (jb false) fun h4 => ?_))
    refine gq (.nsq (.ret ?_))
    have hr := Option.some.inj h
    subst hr
    exact rrA (res_tmp h4) rfl
  refine .skip (.nsq (.seq (rg (g0 (ji 1) fun h14 => gq (.nsq (.seq (rg (gv (.agg [(ji r_9.1.1), (encO (.at 40 [0, 1]) (m_21 : NL (Int × Int)))]) (ev_loadN (c := (.agg [(ji r_9.1.1), (encO (.at 40 [0, 1]) (m_21 : NL (Int × Int)))])) h10 (by simp [V.shape, V.shapes, shape_encP, Sh.beq, Sh.beqs])) fun h109 => ?_))))))))
  refine gm h14 fun h110 => ?_
  obtain ⟨r_28, E_r_28, h⟩ := bind_some h
  refine g_call (m := 0) (al := false) (r := (Enc.enc (r_28 : Int))) [Enc.enc ((r_9.1.1, m_21.list) : (Int × (List (Int × Int)))), Enc.enc (1 : Int)] (ta_cons (v := (.agg [(ji r_9.1.1), (encO (.at 40 [0, 1]) (m_21 : NL (Int × Int)))])) h109 rfl (erase_agg (erases_cons rfl (erases_cons (erase_encO (o := m_21)) erases_nil))) (ta_cons (v := (ji 1)) h110 rfl rfl ta_nil)) (H.c24 _ _ _ E_r_28) H.g24 rfl rfl rfl rfl ?_
  refine gm (rfl : (_ : V) = (ji r_28)) fun h14 => ?_
  refine gq (.nsq (.seq (.seq (rg (gm h14 fun h112 => g1 112 (jb (decide (r_28 < 0))) h112 fun h113 => ?_)))))
  refine gq (.nsq (run_cond (t := decide (r_28 < 0)) h113 h (fun h => ?_) (fun h => ?_)))
  · refine .seq (rg (g0 (jb false) fun h4 => ?_))
    refine gq (.nsq (.ret ?_))
    have hr := Option.some.inj h
    subst hr
    exact rrA (res_tmp h4) rfl
  refine .skip (.nsq (.seq (.seq (rg (gm h14 fun h114 => gm h13 fun h115 => g2 114 115 (jb (r_28 != r_20.1)) h114 h115 fun h116 => ?_)))))
  refine gq (.nsq (run_cond (t := (r_28 != r_20.1)) h116 h (fun h => ?_) (fun h => ?_)))
  · refine .seq (rg (g0 (jb false) fun h4 => ?_))
    refine gq (.nsq (.ret ?_))
    have hr := Option.some.inj h
    subst hr
    exact rrA (res_tmp h4) rfl
  refine .skip (.nsq (.seq (rg (g0 (jb true) fun h4 => ?_))))
  refine gq (.nsq (.ret ?_))
  have hr := Option.some.inj h
  subst hr
  exact rrA (res_tmp h4) rfl
def w_FnExactFillingOf_j2 (F : Nat) (x_2 : (List Int)) (x_1 : (Int × (List (Int × Int)))) (r_6 : ((Int × (List (Int × Int))) × Bool)) (r_9 : ((Int × (NL (Int × Int))) × Bool))  (x_19 : Bool) : Option Bool :=
  bif x_19 then
    some false
  else
    (w_markGraph F (Og.mk r_9.1.1 r_9.1.2 : (Og (Int × Int))) 1).bind fun r_20 =>
    (remarkG r_9.1.1 r_9.1.2 r_20.2).bind fun m_21 =>
    (w_heldGraph F (r_9.1.1, m_21.list) 1).bind fun r_22 =>
    bif decide (r_22 < 0) then
      some false
    else
      bif (r_22 != r_20.1) then
        some false
      else
        (w_toGraph F x_1).bind fun r_23 =>
        (w_toIntS F x_2).bind fun r_24 =>
        (i_FillingOf_o F r_23 r_24).bind fun r_25 =>
        (w_eqGraph F (r_25.1.1, r_25.1.2.list) r_6.1).bind fun r_29 =>
        bif (!r_29) then
          w_FnExactFillingOf_j1 F r_9 m_21 r_20 true
        else
          w_FnExactFillingOf_j1 F r_9 m_21 r_20 (r_25.2 != r_6.2)
theorem t_f3_j2 (H : H3 D σ F) (x_2 : (List Int)) (x_1 : (Int × (List (Int × Int)))) (r_6 : ((Int × (List (Int × Int))) × Bool)) (r_9 : ((Int × (NL (Int × Int))) × Bool))  (x_19 : Bool) (s : Nat → V) (hs : Facts [(1, (eL x_2)), (2, (.ref (.bx 2) 0 [] (.agg [(ji x_1.1), (Enc.enc (x_1.2 : List (Int × Int)))]))), (4, (jb false)), (6, (.ref (.bx 6) 0 [] (.agg [(ji r_6.1.1), (Enc.enc (r_6.1.2 : List (Int × Int)))]))), (7, (jb r_6.2)), (10, (.ref (.bx 10) 0 [] (.agg [(ji r_9.1.1), (encO (.at 40 [0, 1]) (r_9.1.2 : NL (Int × Int)))]))), (80, (jb x_19))] s) (h : w_FnExactFillingOf_j2 F x_2 x_1 r_6 r_9  x_19 = some r) : Run D σ (R3 r) (.nrm [.sq A3_9, .sq A3_10]) s := by
  unfold w_FnExactFillingOf_j2 at h
  obtain ⟨h1, h2, h4, h6, h7, h10, h80⟩ := hs
  refine .nsq (run_cond (t := x_19) h80 h (fun h => ?_) (fun h => ?_))
  · refine .seq (rg (g0 (jb false) fun h4 => ?_))
    refine gq (.nsq (.ret ?_))
    have hr := Option.some.inj h
    subst hr
    exact rrA (res_tmp h4) rfl
  refine .skip (.nsq (.seq (rg (g0 (ji 1) fun h13 => gq (.nsq (.seq (rg (gv (.agg [(ji r_9.1.1), (encO (.at 40 [0, 1]) (r_9.1.2 : NL (Int × Int)))]) (ev_loadN (c := (.agg [(ji r_9.1.1), (encO (.at 40 [0, 1]) (r_9.1.2 : NL (Int × Int)))])) h10 (by simp [V.shape, V.shapes, shape_encP, Sh.beq, Sh.beqs])) fun h81 => ?_))))))))
  refine gm h13 fun h82 => ?_
  obtain ⟨r_20, E_r_20, h⟩ := bind_some h
  obtain ⟨m_21, E_m_21, h⟩ := bind_some h
  refine g_mark (v := (.agg [(ji r_9.1.1), (encO (.at 40 [0, 1]) (r_9.1.2 : NL (Int × Int)))])) h81 (canon_agg (a := r_9.1.1) (o := (r_9.1.2 : NL (Int × Int))) rfl) (rdAll_cons (v := (ji 1)) h82 rfl rdAll_nil) (H.c22 _ _ _ E_r_20) H.g22 rfl rfl (fun s_9 hm_9 => ?_)
  refine gm (rfl : (_ : V) = (ji r_20.1)) fun h13 => ?_
  refine gz [(1, _), (2, (.ref (.bx 2) 0 [] (.agg [(ji x_1.1), (Enc.enc (x_1.2 : List (Int × Int)))]))), (4, (jb false)), (6, (.ref (.bx 6) 0 [] (.agg [(ji r_6.1.1), (Enc.enc (r_6.1.2 : List (Int × Int)))]))), (7, (jb r_6.2)), (10, (.ref (.bx 10) 0 [] (.agg [(ji r_9.1.1), (encO (.at 40 [0, 1]) (m_21 : NL (Int × Int)))]))), (13, _)] ⟨(show s_9 1 = (eL x_2) from hm_9 1 (eL x_2) (eL x_2) h1 (rem_enc (xs := (x_2 : List Int)))), (show s_9 2 = (.ref (.bx 2) 0 [] (.agg [(ji x_1.1), (Enc.enc (x_1.2 : List (Int × Int)))])) from hm_9 2 (.ref (.bx 2) 0 [] (.agg [(ji x_1.1), (Enc.enc (x_1.2 : List (Int × Int)))])) (.ref (.bx 2) 0 [] (.agg [(ji x_1.1), (Enc.enc (x_1.2 : List (Int × Int)))])) h2 (rem_self _ (map_bx (killO_ne rfl) (map_agg (maps_cons rfl (maps_cons (Enc.map_enc _ (x_1.2 : List (Int × Int))) maps_nil)))))), (show s_9 4 = (jb false) from hm_9 4 (jb false) (jb false) h4 (rem_self _ rfl)), (show s_9 6 = (.ref (.bx 6) 0 [] (.agg [(ji r_6.1.1), (Enc.enc (r_6.1.2 : List (Int × Int)))])) from hm_9 6 (.ref (.bx 6) 0 [] (.agg [(ji r_6.1.1), (Enc.enc (r_6.1.2 : List (Int × Int)))])) (.ref (.bx 6) 0 [] (.agg [(ji r_6.1.1), (Enc.enc (r_6.1.2 : List (Int × Int)))])) h6 (rem_self _ (map_bx (killO_ne rfl) (map_agg (maps_cons rfl (maps_cons (Enc.map_enc _ (r_6.1.2 : List (Int × Int))) maps_nil)))))), (show s_9 7 = (jb r_6.2) from hm_9 7 (jb r_6.2) (jb r_6.2) h7 (rem_self _ rfl)), (show s_9 10 = (.ref (.bx 10) 0 [] (.agg [(ji r_9.1.1), (encO (.at 40 [0, 1]) (m_21 : NL (Int × Int)))])) from hm_9 10 (.ref (.bx 10) 0 [] (.agg [(ji r_9.1.1), (encO (.at 40 [0, 1]) (r_9.1.2 : NL (Int × Int)))])) (.ref (.bx 10) 0 [] (.agg [(ji r_9.1.1), (encO (.at 40 [0, 1]) (m_21 : NL (Int × Int)))])) h10 (rem_bx (rem_agg (rems_cons (rem_self _ rfl) (rems_cons (marked_aggG (o := (r_9.1.2 : NL (Int × Int))) rfl E_m_21) rems_nil))))), h13⟩ ?_
  rintro s ⟨h1, h2, h4, h6, h7, h10, h13⟩
  refine .nsq (.seq (rg (g0 (ji 1) fun h14 => gq (.nsq (.seq (rg (gv (.agg [(ji r_9.1.1), (encO (.at 40 [0, 1]) (m_21 : NL (Int × Int)))]) (ev_loadN (c := (.agg [(ji r_9.1.1), (encO (.at 40 [0, 1]) (m_21 : NL (Int × Int)))])) h10 (by simp [V.shape, V.shapes, shape_encP, Sh.beq, Sh.beqs])) fun h84 => ?_)))))))
  refine gm h14 fun h85 => ?_
  obtain ⟨r_22, E_r_22, h⟩ := bind_some h
  refine g_call (m := 0) (al := false) (r := (Enc.enc (r_22 : Int))) [Enc.enc ((r_9.1.1, m_21.list) : (Int × (List (Int × Int)))), Enc.enc (1 : Int)] (ta_cons (v := (.agg [(ji r_9.1.1), (encO (.at 40 [0, 1]) (m_21 : NL (Int × Int)))])) h84 rfl (erase_agg (erases_cons rfl (erases_cons (erase_encO (o := m_21)) erases_nil))) (ta_cons (v := (ji 1)) h85 rfl rfl ta_nil)) (H.c24 _ _ _ E_r_22) H.g24 rfl rfl rfl rfl ?_
  refine gm (rfl : (_ : V) = (ji r_22)) fun h14 => ?_
  refine gq (.nsq (.seq (.seq (rg (gm h14 fun h87 => g1 87 (jb (decide (r_22 < 0))) h87 fun h88 => ?_)))))
  refine gq (.nsq (run_cond (t := decide (r_22 < 0)) h88 h (fun h => ?_) (fun h => ?_)))
  · refine .seq (rg (g0 (jb false) fun h4 => ?_))
    refine gq (.nsq (.ret ?_))
    have hr := Option.some.inj h
    subst hr
    exact rrA (res_tmp h4) rfl
  refine .skip (.nsq (.seq (.seq (rg (gm h14 fun h89 => gm h13 fun h90 => g2 89 90 (jb (r_22 != r_20.1)) h89 h90 fun h91 => ?_)))))
  refine gq (.nsq (run_cond (t := (r_22 != r_20.1)) h91 h (fun h => ?_) (fun h => ?_)))
  · refine .seq (rg (g0 (jb false) fun h4 => ?_))
    refine gq (.nsq (.ret ?_))
    have hr := Option.some.inj h
    subst hr
    exact rrA (res_tmp h4) rfl
  refine .skip (.nsq (.seq (run_reg ?_)))
  refine e_clr ?_
  refine ez [(1, _), (2, _), (4, _), (6, _), (7, _), (10, _), (13, _), (15, _), (97, _)] ⟨(keep_clear (pk := [97, 15]) h1 rfl me), (keep_clear (pk := [97, 15]) h2 rfl (map_bx rfl (map_agg (maps_cons mi (maps_cons me maps_nil))))), (keep_clear (pk := [97, 15]) h4 rfl mb), (keep_clear (pk := [97, 15]) h6 rfl (map_bx rfl (map_agg (maps_cons mi (maps_cons me maps_nil))))), (keep_clear (pk := [97, 15]) h7 rfl mb), (keep_clear (pk := [97, 15]) h10 rfl (map_bx rfl (map_agg (maps_cons mi (maps_cons (map_encO (r := 40) (p := [0, 1]) rfl rfl) maps_nil))))), (keep_clear (pk := [97, 15]) h13 rfl mi), (gone_clear (pk := [97, 15]) (t := 15) rfl), (gone_clear (pk := [97, 15]) (t := 97) rfl)⟩ ?_
  rintro s ⟨h1, h2, h4, h6, h7, h10, h13, h15, h97⟩
  refine g1 2 (.agg [(ji x_1.1), (Enc.enc (x_1.2 : List (Int × Int)))]) h2 fun h93 => ?_
  obtain ⟨r_23, E_r_23, h⟩ := bind_some h
  refine g_call (m := 0) (al := true) (r := (Enc.enc (r_23 : (Int × (List (Int × Int)))))) [Enc.enc (x_1 : (Int × (List (Int × Int))))] (ta_cons (v := (.agg [(ji x_1.1), (Enc.enc (x_1.2 : List (Int × Int)))])) h93 rfl (Enc.erase_enc (x_1 : (Int × (List (Int × Int))))) ta_nil) (H.c17 _ _ E_r_23) H.g17 (hal_of (ht_cons (v := (.agg [(ji x_1.1), (Enc.enc (x_1.2 : List (Int × Int)))])) h93 rfl rfl ht_nil)) rfl rfl rfl ?_
  refine gm h1 fun h95 => ?_
  obtain ⟨r_24, E_r_24, h⟩ := bind_some h
  refine g_call (m := 0) (al := false) (r := (Enc.enc (r_24 : (List Int)))) [Enc.enc (x_2 : (List Int))] (ta_cons (v := (eL x_2)) h95 rfl (Enc.erase_enc (x_2 : (List Int))) ta_nil) (H.c18 _ _ E_r_24) H.g18 rfl rfl rfl rfl ?_
  obtain ⟨r_25, E_r_25, h⟩ := bind_some h
  refine g_callO (m := 1) (al := false) (r := (.tup [(.agg [(Enc.enc (r_25.1.1 : Int)), (encO .sh (r_25.1.2 : NL (Int × Int)))]), (Enc.enc (r_25.2 : Bool))])) (v := (.tup [(.agg [(ji r_25.1.1), (encO (.at 97 [0, 1]) (r_25.1.2 : NL (Int × Int)))]), (jb r_25.2)])) (kk := 1000000019) [Enc.enc (r_23 : (Int × (List (Int × Int)))), Enc.enc (r_24 : (List Int))] (ta_cons (v := (.agg [(ji r_23.1), (Enc.enc (r_23.2 : List (Int × Int)))])) rfl rfl (Enc.erase_enc (r_23 : (Int × (List (Int × Int))))) (ta_cons (v := (eL r_24)) rfl rfl (Enc.erase_enc (r_24 : (List Int))) ta_nil)) (H.c19o _ _ _ E_r_25) H.g19o rfl (toks_tup (tokss_cons (toks_agg (tokss_cons rfl (tokss_cons toks_encS tokss_nil))) (tokss_cons rfl tokss_nil))) (tag_tup (tags_cons (tag_agg (tags_cons rfl (tags_cons tag_encO tags_nil))) (tags_cons rfl tags_nil))) rfl h97 ?_
  refine gm (rfl : (_ : V) = (.tup [(.agg [(ji r_25.1.1), (encO (.at 97 [0, 1]) (r_25.1.2 : NL (Int × Int)))]), (jb r_25.2)])) fun h92 => ?_
  refine gv (.agg [(ji r_25.1.1), (encO (.at 97 [0, 1]) (r_25.1.2 : NL (Int × Int)))]) (ev_extN (v := (.agg [(ji r_25.1.1), (encO (.at 97 [0, 1]) (r_25.1.2 : NL (Int × Int)))])) h92 rfl rfl) fun h98 => ?_
  refine g1 92 (jb r_25.2) h92 fun h99 => ?_
  refine g_alloc h15 ?_
  refine g_store (.agg [(ji r_25.1.1), (encO (.at 97 [0, 1]) (r_25.1.2 : NL (Int × Int)))]) (rd_of rfl rfl) (rd_of h98 rfl) ⟨by decide, by decide, rfl, (by simp [V.shape, V.shapes, shape_encP, Sh.beq, Sh.beqs]), (by simp [V.shape, V.shapes, shape_encP, Sh.beq, Sh.beqs]), (by simp [V.toks, V.tokss, tok_memP])⟩ ?_
  refine gm (keep_mut h99 rfl) fun h16 => ?_
  refine gz [(4, (jb false)), (6, (.ref (.bx 6) 0 [] (.agg [(ji r_6.1.1), (Enc.enc (r_6.1.2 : List (Int × Int)))]))), (7, (jb r_6.2)), (10, (.ref (.bx 10) 0 [] (.agg [(ji r_9.1.1), (encO (.at 40 [0, 1]) (m_21 : NL (Int × Int)))]))), (13, (ji r_20.1)), (15, (.ref (.bx 15) 0 [] (.agg [(ji r_25.1.1), (encO (.at 97 [0, 1]) (r_25.1.2 : NL (Int × Int)))]))), (16, _)] ⟨(keep_mut h4 rfl), (keep_mut h6 (mut_ref_ne rfl rfl (mut_agg (muts_cons rfl (muts_cons (Enc.mut_enc _ _ _ _ (r_6.1.2 : List (Int × Int))) rfl))))), (keep_mut h7 rfl), (keep_mut h10 (mut_ref_ne rfl rfl (mut_agg (muts_cons rfl (muts_cons (mut_own_ne rfl rfl) rfl))))), (keep_mut h13 rfl), (keep_mut rfl rfl), h16⟩ ?_
  rintro s ⟨h4, h6, h7, h10, h13, h15, h16⟩
  refine .nsq (.seq (.seq (rg (gv (.agg [(ji r_25.1.1), (encO (.at 97 [0, 1]) (r_25.1.2 : NL (Int × Int)))]) (ev_loadN (c := (.agg [(ji r_25.1.1), (encO (.at 97 [0, 1]) (r_25.1.2 : NL (Int × Int)))])) h15 (by simp [V.shape, V.shapes, shape_encP, Sh.beq, Sh.beqs])) fun h100 => ?_))))
  refine g1 6 (.agg [(ji r_6.1.1), (Enc.enc (r_6.1.2 : List (Int × Int)))]) h6 fun h101 => ?_
  obtain ⟨r_29, E_r_29, h⟩ := bind_some h
  refine g_call (m := 0) (al := false) (r := (Enc.enc (r_29 : Bool))) [Enc.enc ((r_25.1.1, r_25.1.2.list) : (Int × (List (Int × Int)))), Enc.enc (r_6.1 : (Int × (List (Int × Int))))] (ta_cons (v := (.agg [(ji r_25.1.1), (encO (.at 97 [0, 1]) (r_25.1.2 : NL (Int × Int)))])) h100 rfl (erase_agg (erases_cons rfl (erases_cons (erase_encO (o := r_25.1.2)) erases_nil))) (ta_cons (v := (.agg [(ji r_6.1.1), (Enc.enc (r_6.1.2 : List (Int × Int)))])) h101 rfl (Enc.erase_enc (r_6.1 : (Int × (List (Int × Int))))) ta_nil)) (H.c20 _ _ _ E_r_29) H.g20 rfl rfl rfl rfl ?_
  refine g1 102 (jb (!r_29)) (rfl : (_ : V) = (jb r_29)) fun h103 => ?_
  refine gm h103 fun h104 => split_on (c := (!r_29)) h (fun hg5 h => ?_) (fun hg5 h => ?_)
  · refine g_no (h104.trans (congrArg V.bool hg5)) ?_
    refine g_no (h104.trans (congrArg V.bool hg5)) ?_
    refine g_no (h104.trans (congrArg V.bool hg5)) ?_
    refine g2 104 107 (jb true) (h104.trans (congrArg V.bool hg5)) (rfl : (_ : V) = (.tup [])) fun h108 => ?_
    refine gq ?_
    exact t_f3_j1 H r_9 m_21 r_20 true _ ⟨h4, h10, h13, h108⟩ h
  refine g_yes (h104.trans (congrArg V.bool hg5)) (gm h16 fun h105 => ?_)
  refine g_yes (h104.trans (congrArg V.bool hg5)) (gm h7 fun h106 => ?_)
  refine g_yes (h104.trans (congrArg V.bool hg5)) (g2 105 106 (jb (r_25.2 != r_6.2)) h105 h106 fun h107 => ?_)
  refine g2 104 107 (jb (r_25.2 != r_6.2)) (h104.trans (congrArg V.bool hg5)) h107 fun h108 => ?_
  refine gq ?_
  exact t_f3_j1 H r_9 m_21 r_20 (r_25.2 != r_6.2) _ ⟨h4, h10, h13, h108⟩ h
def w_FnExactFillingOf_j3 (F : Nat) (x_2 : (List Int)) (x_1 : (Int × (List (Int × Int)))) (r_6 : ((Int × (List (Int × Int))) × Bool)) (r_7 : (Int × (NL (Int × Int)))) (r_8 : (NL Int)) (r_9 : ((Int × (NL (Int × Int))) × Bool))  (x_11 : Bool) : Option Bool :=
  bif x_11 then
    some false
  else
    (w_toGraph F x_1).bind fun r_12 =>
    (w_eqGraph F (r_7.1, r_7.2.list) r_12).bind fun r_13 =>
    bif (!r_13) then
      some false
    else
      (w_toIntS F x_2).bind fun r_14 =>
      (w_eqIntS F r_8.list r_14).bind fun r_15 =>
      bif (!r_15) then
        some false
      else
        (w_markGraph F (Og.mk r_7.1 r_7.2 : (Og (Int × Int))) 1).bind fun r_16 =>
        (w_markIntS F (On.mk r_8 : (On Int)) r_16.1).bind fun r_17 =>
        bif decide (r_17.1 < 0) then
          w_FnExactFillingOf_j2 F x_2 x_1 r_6 r_9 true
        else
          (w_eqGraph F (r_9.1.1, r_9.1.2.list) r_6.1).bind fun r_30 =>
          bif (!r_30) then
            w_FnExactFillingOf_j2 F x_2 x_1 r_6 r_9 true
          else
            w_FnExactFillingOf_j2 F x_2 x_1 r_6 r_9 (r_9.2 != r_6.2)
theorem t_f3_j3 (H : H3 D σ F) (x_2 : (List Int)) (x_1 : (Int × (List (Int × Int)))) (r_6 : ((Int × (List (Int × Int))) × Bool)) (r_7 : (Int × (NL (Int × Int)))) (r_8 : (NL Int)) (r_9 : ((Int × (NL (Int × Int))) × Bool))  (x_11 : Bool) (s : Nat → V) (hs : Facts [(1, (eL x_2)), (2, (.ref (.bx 2) 0 [] (.agg [(ji x_1.1), (Enc.enc (x_1.2 : List (Int × Int)))]))), (4, (jb false)), (6, (.ref (.bx 6) 0 [] (.agg [(ji r_6.1.1), (Enc.enc (r_6.1.2 : List (Int × Int)))]))), (7, (jb r_6.2)), (8, (.ref (.bx 8) 0 [] (.agg [(ji r_7.1), (encO (.at 34 [1]) (r_7.2 : NL (Int × Int)))]))), (9, (oI 9 [] r_8)), (10, (.ref (.bx 10) 0 [] (.agg [(ji r_9.1.1), (encO (.at 40 [0, 1]) (r_9.1.2 : NL (Int × Int)))]))), (11, (jb r_9.2)), (51, (jb x_11))] s) (h : w_FnExactFillingOf_j3 F x_2 x_1 r_6 r_7 r_8 r_9  x_11 = some r) : Run D σ (R3 r) (.nrm [.sq A3_20, .sq A3_21]) s := by
  unfold w_FnExactFillingOf_j3 at h
  obtain ⟨h1, h2, h4, h6, h7, h8, h9, h10, h11, h51⟩ := hs
  refine .nsq (run_cond (t := x_11) h51 h (fun h => ?_) (fun h => ?_))
  · refine .seq (rg (g0 (jb false) fun h4 => ?_))
    refine gq (.nsq (.ret ?_))
    have hr := Option.some.inj h
    subst hr
    exact rrA (res_tmp h4) rfl
  refine .skip (.nsq (.seq (.seq (rg (gv (.agg [(ji r_7.1), (encO (.at 34 [1]) (r_7.2 : NL (Int × Int)))]) (ev_loadN (c := (.agg [(ji r_7.1), (encO (.at 34 [1]) (r_7.2 : NL (Int × Int)))])) h8 (by simp [V.shape, V.shapes, shape_encP, Sh.beq, Sh.beqs])) fun h52 => ?_)))))
  refine g1 2 (.agg [(ji x_1.1), (Enc.enc (x_1.2 : List (Int × Int)))]) h2 fun h53 => ?_
  obtain ⟨r_12, E_r_12, h⟩ := bind_some h
  refine g_call (m := 0) (al := true) (r := (Enc.enc (r_12 : (Int × (List (Int × Int)))))) [Enc.enc (x_1 : (Int × (List (Int × Int))))] (ta_cons (v := (.agg [(ji x_1.1), (Enc.enc (x_1.2 : List (Int × Int)))])) h53 rfl (Enc.erase_enc (x_1 : (Int × (List (Int × Int))))) ta_nil) (H.c17 _ _ E_r_12) H.g17 (hal_of (ht_cons (v := (.agg [(ji x_1.1), (Enc.enc (x_1.2 : List (Int × Int)))])) h53 rfl rfl ht_nil)) rfl rfl rfl ?_
  obtain ⟨r_13, E_r_13, h⟩ := bind_some h
  refine g_call (m := 0) (al := false) (r := (Enc.enc (r_13 : Bool))) [Enc.enc ((r_7.1, r_7.2.list) : (Int × (List (Int × Int)))), Enc.enc (r_12 : (Int × (List (Int × Int))))] (ta_cons (v := (.agg [(ji r_7.1), (encO (.at 34 [1]) (r_7.2 : NL (Int × Int)))])) h52 rfl (erase_agg (erases_cons rfl (erases_cons (erase_encO (o := r_7.2)) erases_nil))) (ta_cons (v := (.agg [(ji r_12.1), (Enc.enc (r_12.2 : List (Int × Int)))])) rfl rfl (Enc.erase_enc (r_12 : (Int × (List (Int × Int))))) ta_nil)) (H.c20 _ _ _ E_r_13) H.g20 rfl rfl rfl rfl ?_
  refine g1 55 (jb (!r_13)) (rfl : (_ : V) = (jb r_13)) fun h56 => ?_
  refine gq (.nsq (run_cond (t := (!r_13)) h56 h (fun h => ?_) (fun h => ?_)))
  · refine .seq (rg (g0 (jb false) fun h4 => ?_))
    refine gq (.nsq (.ret ?_))
    have hr := Option.some.inj h
    subst hr
    exact rrA (res_tmp h4) rfl
  refine .skip (.nsq (.seq (.seq (rg (gv (oI 9 [] r_8) (ev_mov h9 ok_encO) fun h57 => ?_)))))
  refine gm h1 fun h58 => ?_
  obtain ⟨r_14, E_r_14, h⟩ := bind_some h
  refine g_call (m := 0) (al := false) (r := (Enc.enc (r_14 : (List Int)))) [Enc.enc (x_2 : (List Int))] (ta_cons (v := (eL x_2)) h58 rfl (Enc.erase_enc (x_2 : (List Int))) ta_nil) (H.c18 _ _ E_r_14) H.g18 rfl rfl rfl rfl ?_
  obtain ⟨r_15, E_r_15, h⟩ := bind_some h
  refine g_call (m := 0) (al := false) (r := (Enc.enc (r_15 : Bool))) [Enc.enc (r_8.list : (List Int)), Enc.enc (r_14 : (List Int))] (ta_cons (v := (oI 9 [] r_8)) h57 ok_encP (erase_encO (o := r_8)) (ta_cons (v := (eL r_14)) rfl rfl (Enc.erase_enc (r_14 : (List Int))) ta_nil)) (H.c21 _ _ _ E_r_15) H.g21 rfl rfl rfl rfl ?_
  refine g1 60 (jb (!r_15)) (rfl : (_ : V) = (jb r_15)) fun h61 => ?_
  refine gq (.nsq (run_cond (t := (!r_15)) h61 h (fun h => ?_) (fun h => ?_)))
  · refine .seq (rg (g0 (jb false) fun h4 => ?_))
    refine gq (.nsq (.ret ?_))
    have hr := Option.some.inj h
    subst hr
    exact rrA (res_tmp h4) rfl
  refine .skip (.nsq (.seq (rg (g0 (ji 1) fun h12 => gq (.nsq (.seq (rg (gv (.agg [(ji r_7.1), (encO (.at 34 [1]) (r_7.2 : NL (Int × Int)))]) (ev_loadN (c := (.agg [(ji r_7.1), (encO (.at 34 [1]) (r_7.2 : NL (Int × Int)))])) h8 (by simp [V.shape, V.shapes, shape_encP, Sh.beq, Sh.beqs])) fun h62 => ?_))))))))
  refine gm h12 fun h63 => ?_
  obtain ⟨r_16, E_r_16, h⟩ := bind_some h
  refine g_mark (v := (.agg [(ji r_7.1), (encO (.at 34 [1]) (r_7.2 : NL (Int × Int)))])) h62 (canon_agg (a := r_7.1) (o := (r_7.2 : NL (Int × Int))) rfl) (rdAll_cons (v := (ji 1)) h63 rfl rdAll_nil) (H.c22 _ _ _ E_r_16) H.g22 rfl rfl (fun s_7 hm_7 => ?_)
  refine gm (rfl : (_ : V) = (ji r_16.1)) fun h12 => ?_
  refine gz [(1, _), (2, (.ref (.bx 2) 0 [] (.agg [(ji x_1.1), (Enc.enc (x_1.2 : List (Int × Int)))]))), (4, (jb false)), (6, (.ref (.bx 6) 0 [] (.agg [(ji r_6.1.1), (Enc.enc (r_6.1.2 : List (Int × Int)))]))), (7, (jb r_6.2)), (9, (oI 9 [] r_8)), (10, (.ref (.bx 10) 0 [] (.agg [(ji r_9.1.1), (encO (.at 40 [0, 1]) (r_9.1.2 : NL (Int × Int)))]))), (11, (jb r_9.2)), (12, _)] ⟨(show s_7 1 = (eL x_2) from hm_7 1 (eL x_2) (eL x_2) h1 (rem_enc (xs := (x_2 : List Int)))), (show s_7 2 = (.ref (.bx 2) 0 [] (.agg [(ji x_1.1), (Enc.enc (x_1.2 : List (Int × Int)))])) from hm_7 2 (.ref (.bx 2) 0 [] (.agg [(ji x_1.1), (Enc.enc (x_1.2 : List (Int × Int)))])) (.ref (.bx 2) 0 [] (.agg [(ji x_1.1), (Enc.enc (x_1.2 : List (Int × Int)))])) h2 (rem_self _ (map_bx (killO_ne rfl) (map_agg (maps_cons rfl (maps_cons (Enc.map_enc _ (x_1.2 : List (Int × Int))) maps_nil)))))), (show s_7 4 = (jb false) from hm_7 4 (jb false) (jb false) h4 (rem_self _ rfl)), (show s_7 6 = (.ref (.bx 6) 0 [] (.agg [(ji r_6.1.1), (Enc.enc (r_6.1.2 : List (Int × Int)))])) from hm_7 6 (.ref (.bx 6) 0 [] (.agg [(ji r_6.1.1), (Enc.enc (r_6.1.2 : List (Int × Int)))])) (.ref (.bx 6) 0 [] (.agg [(ji r_6.1.1), (Enc.enc (r_6.1.2 : List (Int × Int)))])) h6 (rem_self _ (map_bx (killO_ne rfl) (map_agg (maps_cons rfl (maps_cons (Enc.map_enc _ (r_6.1.2 : List (Int × Int))) maps_nil)))))), (show s_7 7 = (jb r_6.2) from hm_7 7 (jb r_6.2) (jb r_6.2) h7 (rem_self _ rfl)), (show s_7 9 = (oI 9 [] r_8) from hm_7 9 (oI 9 [] r_8) (oI 9 [] r_8) h9 (rem_self _ (map_encO (r := 9) (p := []) (killO_ne rfl) (killO_ne rfl)))), (show s_7 10 = (.ref (.bx 10) 0 [] (.agg [(ji r_9.1.1), (encO (.at 40 [0, 1]) (r_9.1.2 : NL (Int × Int)))])) from hm_7 10 (.ref (.bx 10) 0 [] (.agg [(ji r_9.1.1), (encO (.at 40 [0, 1]) (r_9.1.2 : NL (Int × Int)))])) (.ref (.bx 10) 0 [] (.agg [(ji r_9.1.1), (encO (.at 40 [0, 1]) (r_9.1.2 : NL (Int × Int)))])) h10 (rem_self _ (map_bx (killO_ne rfl) (map_agg (maps_cons rfl (maps_cons (map_encO (r := 40) (p := [0, 1]) (killO_ne rfl) (killO_ne rfl)) maps_nil)))))), (show s_7 11 = (jb r_9.2) from hm_7 11 (jb r_9.2) (jb r_9.2) h11 (rem_self _ rfl)), h12⟩ ?_
  rintro s ⟨h1, h2, h4, h6, h7, h9, h10, h11, h12⟩
  refine .nsq (.seq (rg (gv (oI 9 [] r_8) (ev_mov h9 ok_encO) fun h65 => ?_)))
  refine gm h12 fun h66 => ?_
  obtain ⟨r_17, E_r_17, h⟩ := bind_some h
  refine g_mark (v := (oI 9 [] r_8)) h65 (canon_own (o := (r_8 : (NL Int))) rfl) (rdAll_cons (v := (ji r_16.1)) h66 rfl rdAll_nil) (H.c23 _ _ _ E_r_17) H.g23 rfl rfl (fun s_8 hm_8 => ?_)
  refine gm (rfl : (_ : V) = (ji r_17.1)) fun h12 => ?_
  refine gz [(1, _), (2, (.ref (.bx 2) 0 [] (.agg [(ji x_1.1), (Enc.enc (x_1.2 : List (Int × Int)))]))), (4, (jb false)), (6, (.ref (.bx 6) 0 [] (.agg [(ji r_6.1.1), (Enc.enc (r_6.1.2 : List (Int × Int)))]))), (7, (jb r_6.2)), (10, (.ref (.bx 10) 0 [] (.agg [(ji r_9.1.1), (encO (.at 40 [0, 1]) (r_9.1.2 : NL (Int × Int)))]))), (11, (jb r_9.2)), (12, _)] ⟨(show s_8 1 = (eL x_2) from hm_8 1 (eL x_2) (eL x_2) h1 (rem_enc (xs := (x_2 : List Int)))), (show s_8 2 = (.ref (.bx 2) 0 [] (.agg [(ji x_1.1), (Enc.enc (x_1.2 : List (Int × Int)))])) from hm_8 2 (.ref (.bx 2) 0 [] (.agg [(ji x_1.1), (Enc.enc (x_1.2 : List (Int × Int)))])) (.ref (.bx 2) 0 [] (.agg [(ji x_1.1), (Enc.enc (x_1.2 : List (Int × Int)))])) h2 (rem_self _ (map_bx (killO_ne rfl) (map_agg (maps_cons rfl (maps_cons (Enc.map_enc _ (x_1.2 : List (Int × Int))) maps_nil)))))), (show s_8 4 = (jb false) from hm_8 4 (jb false) (jb false) h4 (rem_self _ rfl)), (show s_8 6 = (.ref (.bx 6) 0 [] (.agg [(ji r_6.1.1), (Enc.enc (r_6.1.2 : List (Int × Int)))])) from hm_8 6 (.ref (.bx 6) 0 [] (.agg [(ji r_6.1.1), (Enc.enc (r_6.1.2 : List (Int × Int)))])) (.ref (.bx 6) 0 [] (.agg [(ji r_6.1.1), (Enc.enc (r_6.1.2 : List (Int × Int)))])) h6 (rem_self _ (map_bx (killO_ne rfl) (map_agg (maps_cons rfl (maps_cons (Enc.map_enc _ (r_6.1.2 : List (Int × Int))) maps_nil)))))), (show s_8 7 = (jb r_6.2) from hm_8 7 (jb r_6.2) (jb r_6.2) h7 (rem_self _ rfl)), (show s_8 10 = (.ref (.bx 10) 0 [] (.agg [(ji r_9.1.1), (encO (.at 40 [0, 1]) (r_9.1.2 : NL (Int × Int)))])) from hm_8 10 (.ref (.bx 10) 0 [] (.agg [(ji r_9.1.1), (encO (.at 40 [0, 1]) (r_9.1.2 : NL (Int × Int)))])) (.ref (.bx 10) 0 [] (.agg [(ji r_9.1.1), (encO (.at 40 [0, 1]) (r_9.1.2 : NL (Int × Int)))])) h10 (rem_self _ (map_bx (killO_ne rfl) (map_agg (maps_cons rfl (maps_cons (map_encO (r := 40) (p := [0, 1]) (killO_ne rfl) (killO_ne rfl)) maps_nil)))))), (show s_8 11 = (jb r_9.2) from hm_8 11 (jb r_9.2) (jb r_9.2) h11 (rem_self _ rfl)), h12⟩ ?_
  rintro s ⟨h1, h2, h4, h6, h7, h10, h11, h12⟩
  refine .nsq (.seq (.seq (rg (gm h12 fun h68 => g1 68 (jb (decide (r_17.1 < 0))) h68 fun h69 => ?_))))
  refine gm h69 fun h70 => split_on (c := decide (r_17.1 < 0)) h (fun hg3 h => ?_) (fun hg3 h => ?_)
  · refine g_no (h70.trans (congrArg V.bool hg3)) ?_
    refine g_no (h70.trans (congrArg V.bool hg3)) ?_
    refine g_no (h70.trans (congrArg V.bool hg3)) ?_
    refine g_no (h70.trans (congrArg V.bool hg3)) ?_
    refine g2 70 74 (jb true) (h70.trans (congrArg V.bool hg3)) (rfl : (_ : V) = (.tup [])) fun h75 => ?_
    refine gm h75 fun h76 => g_no h76 ?_
    refine g_no h76 ?_
    refine g_no h76 ?_
    refine g2 76 79 (jb true) h76 (rfl : (_ : V) = (.tup [])) fun h80 => ?_
    refine gq ?_
    exact t_f3_j2 H x_2 x_1 r_6 r_9 true _ ⟨h1, h2, h4, h6, h7, h10, h80⟩ h
  refine g_yes (h70.trans (congrArg V.bool hg3)) (gv (.agg [(ji r_9.1.1), (encO (.at 40 [0, 1]) (r_9.1.2 : NL (Int × Int)))]) (ev_loadN (c := (.agg [(ji r_9.1.1), (encO (.at 40 [0, 1]) (r_9.1.2 : NL (Int × Int)))])) h10 (by simp [V.shape, V.shapes, shape_encP, Sh.beq, Sh.beqs])) fun h71 => ?_)
  refine g_yes (h70.trans (congrArg V.bool hg3)) (g1 6 (.agg [(ji r_6.1.1), (Enc.enc (r_6.1.2 : List (Int × Int)))]) h6 fun h72 => ?_)
  obtain ⟨r_30, E_r_30, h⟩ := bind_some h
  refine g_yes (h70.trans (congrArg V.bool hg3)) (g_call (m := 0) (al := false) (r := (Enc.enc (r_30 : Bool))) [Enc.enc ((r_9.1.1, r_9.1.2.list) : (Int × (List (Int × Int)))), Enc.enc (r_6.1 : (Int × (List (Int × Int))))] (ta_cons (v := (.agg [(ji r_9.1.1), (encO (.at 40 [0, 1]) (r_9.1.2 : NL (Int × Int)))])) h71 rfl (erase_agg (erases_cons rfl (erases_cons (erase_encO (o := r_9.1.2)) erases_nil))) (ta_cons (v := (.agg [(ji r_6.1.1), (Enc.enc (r_6.1.2 : List (Int × Int)))])) h72 rfl (Enc.erase_enc (r_6.1 : (Int × (List (Int × Int))))) ta_nil)) (H.c20 _ _ _ E_r_30) H.g20 rfl rfl rfl rfl ?_)
  refine g_yes (h70.trans (congrArg V.bool hg3)) (g1 73 (jb (!r_30)) (rfl : (_ : V) = (jb r_30)) fun h74 => ?_)
  refine g2 70 74 (jb (!r_30)) (h70.trans (congrArg V.bool hg3)) h74 fun h75 => ?_
  refine gm h75 fun h76 => split_on (c := (!r_30)) h (fun hg9 h => ?_) (fun hg9 h => ?_)
  · refine g_no (h76.trans (congrArg V.bool hg9)) ?_
    refine g_no (h76.trans (congrArg V.bool hg9)) ?_
    refine g_no (h76.trans (congrArg V.bool hg9)) ?_
    refine g2 76 79 (jb true) (h76.trans (congrArg V.bool hg9)) (rfl : (_ : V) = (.tup [])) fun h80 => ?_
    refine gq ?_
    exact t_f3_j2 H x_2 x_1 r_6 r_9 true _ ⟨h1, h2, h4, h6, h7, h10, h80⟩ h
  refine g_yes (h76.trans (congrArg V.bool hg9)) (gm h11 fun h77 => ?_)
  refine g_yes (h76.trans (congrArg V.bool hg9)) (gm h7 fun h78 => ?_)
  refine g_yes (h76.trans (congrArg V.bool hg9)) (g2 77 78 (jb (r_9.2 != r_6.2)) h77 h78 fun h79 => ?_)
  refine g2 76 79 (jb (r_9.2 != r_6.2)) (h76.trans (congrArg V.bool hg9)) h79 fun h80 => ?_
  refine gq ?_
  exact t_f3_j2 H x_2 x_1 r_6 r_9 (r_9.2 != r_6.2) _ ⟨h1, h2, h4, h6, h7, h10, h80⟩ h
def w_FnExactFillingOf (F : Nat) (x_1 : (Int × (List (Int × Int)))) (x_2 : (List Int)) : Option Bool :=
  bif decide ((x_2.length : Int) > 1048576) then
    some true
  else
    (w_szGraph F x_1 1048576).bind fun r_3 =>
    bif decide (r_3 < 0) then
      some true
    else
      (w_toGraph F x_1).bind fun r_4 =>
      (w_toIntS F x_2).bind fun r_5 =>
      (s_FillingOf F r_4 r_5).bind fun r_6 =>
      (w_toGraph_o F x_1).bind fun r_7 =>
      (w_toIntS_o F x_2).bind fun r_8 =>
      (i_FillingOf_o F (r_7.1, r_7.2.list) r_8.list).bind fun r_9 =>
      (w_eqGraph F (r_9.1.1, r_9.1.2.list) r_6.1).bind fun r_31 =>
      bif (!r_31) then
        w_FnExactFillingOf_j3 F x_2 x_1 r_6 r_7 r_8 r_9 true
      else
        w_FnExactFillingOf_j3 F x_2 x_1 r_6 r_7 r_8 r_9 (r_9.2 != r_6.2)
theorem t3 (H : H3 D σ F) (x_1 : (Int × (List (Int × Int)))) (x_2 : (List Int)) (s : Nat → V) (hs : Facts [(0, (.agg [(ji x_1.1), (Enc.enc (x_1.2 : List (Int × Int)))])), (1, (eL x_2))] s) (h : w_FnExactFillingOf F x_1 x_2 = some r) : Run D σ (R3 r) (.run A3 []) s := by
  unfold w_FnExactFillingOf at h
  obtain ⟨h0, h1⟩ := hs
  refine .seq (run_reg ?_)
  refine e_clr ?_
  refine ez [(0, _), (1, _), (2, _)] ⟨(keep_clear (pk := [2]) h0 rfl (map_agg (maps_cons mi (maps_cons me maps_nil)))), (keep_clear (pk := [2]) h1 rfl me), (gone_clear (pk := [2]) (t := 2) rfl)⟩ ?_
  rintro s ⟨h0, h1, h2⟩
  refine g_box (.agg [(ji x_1.1), (Enc.enc (x_1.2 : List (Int × Int)))]) (rd_of h0 rfl) h2 rfl ?_
  refine g0 (jb false) fun h4 => ?_
  refine gq (.nsq (.seq (.seq (rg (gm h1 fun h17 => gv (ji (x_2.length : Int)) (ev_len (xs := x_2) h17) fun h18 => ?_)))))
  refine g1 18 (jb (decide ((x_2.length : Int) > 1048576))) h18 fun h19 => ?_
  refine gq (.nsq (run_cond (t := decide ((x_2.length : Int) > 1048576)) h19 h (fun h => ?_) (fun h => ?_)))
  · refine .seq (rg (g0 (jb true) fun h4 => ?_))
    refine gq (.nsq (.ret ?_))
    have hr := Option.some.inj h
    subst hr
    exact rrA (res_tmp h4) rfl
  refine .skip (.nsq (.seq (rg (g0 (ji 1048576) fun h5 => gq (.nsq (.seq (rg (g1 2 (.agg [(ji x_1.1), (Enc.enc (x_1.2 : List (Int × Int)))]) (rfl : (_ : V) = (.ref (.bx 2) 0 [] (.agg [(ji x_1.1), (Enc.enc (x_1.2 : List (Int × Int)))]))) fun h20 => ?_))))))))
  refine gm h5 fun h21 => ?_
  obtain ⟨r_3, E_r_3, h⟩ := bind_some h
  refine g_call (m := 0) (al := false) (r := (Enc.enc (r_3 : Int))) [Enc.enc (x_1 : (Int × (List (Int × Int)))), Enc.enc (1048576 : Int)] (ta_cons (v := (.agg [(ji x_1.1), (Enc.enc (x_1.2 : List (Int × Int)))])) h20 rfl (Enc.erase_enc (x_1 : (Int × (List (Int × Int))))) (ta_cons (v := (ji 1048576)) h21 rfl rfl ta_nil)) (H.c15 _ _ _ E_r_3) H.g15 rfl rfl rfl rfl ?_
  refine gm (rfl : (_ : V) = (ji r_3)) fun h5 => ?_
  refine gq (.nsq (.seq (.seq (rg (gm h5 fun h23 => g1 23 (jb (decide (r_3 < 0))) h23 fun h24 => ?_)))))
  refine gq (.nsq (run_cond (t := decide (r_3 < 0)) h24 h (fun h => ?_) (fun h => ?_)))
  · refine .seq (rg (g0 (jb true) fun h4 => ?_))
    refine gq (.nsq (.ret ?_))
    have hr := Option.some.inj h
    subst hr
    exact rrA (res_tmp h4) rfl
  refine .skip (.nsq (.seq (run_reg ?_)))
  refine e_clr ?_
  refine ez [(1, _), (2, _), (4, _), (6, _)] ⟨(keep_clear (pk := [6]) h1 rfl me), (keep_clear (pk := [6]) rfl rfl (map_bx rfl (map_agg (maps_cons mi (maps_cons me maps_nil))))), (keep_clear (pk := [6]) h4 rfl mb), (gone_clear (pk := [6]) (t := 6) rfl)⟩ ?_
  rintro s ⟨h1, h2, h4, h6⟩
  refine g1 2 (.agg [(ji x_1.1), (Enc.enc (x_1.2 : List (Int × Int)))]) h2 fun h26 => ?_
  obtain ⟨r_4, E_r_4, h⟩ := bind_some h
  refine g_call (m := 0) (al := true) (r := (Enc.enc (r_4 : (Int × (List (Int × Int)))))) [Enc.enc (x_1 : (Int × (List (Int × Int))))] (ta_cons (v := (.agg [(ji x_1.1), (Enc.enc (x_1.2 : List (Int × Int)))])) h26 rfl (Enc.erase_enc (x_1 : (Int × (List (Int × Int))))) ta_nil) (H.c17 _ _ E_r_4) H.g17 (hal_of (ht_cons (v := (.agg [(ji x_1.1), (Enc.enc (x_1.2 : List (Int × Int)))])) h26 rfl rfl ht_nil)) rfl rfl rfl ?_
  refine gm h1 fun h28 => ?_
  obtain ⟨r_5, E_r_5, h⟩ := bind_some h
  refine g_call (m := 0) (al := false) (r := (Enc.enc (r_5 : (List Int)))) [Enc.enc (x_2 : (List Int))] (ta_cons (v := (eL x_2)) h28 rfl (Enc.erase_enc (x_2 : (List Int))) ta_nil) (H.c18 _ _ E_r_5) H.g18 rfl rfl rfl rfl ?_
  obtain ⟨r_6, E_r_6, h⟩ := bind_some h
  refine g_call (m := 0) (al := true) (r := (.tup [Enc.enc (r_6.1 : (Int × (List (Int × Int)))), Enc.enc (r_6.2 : Bool)])) [Enc.enc (r_4 : (Int × (List (Int × Int)))), Enc.enc (r_5 : (List Int))] (ta_cons (v := (.agg [(ji r_4.1), (Enc.enc (r_4.2 : List (Int × Int)))])) rfl rfl (Enc.erase_enc (r_4 : (Int × (List (Int × Int))))) (ta_cons (v := (eL r_5)) rfl rfl (Enc.erase_enc (r_5 : (List Int))) ta_nil)) (H.c16 _ _ _ E_r_6) H.g16 (hal_of (ht_cons (v := (.agg [(ji r_4.1), (Enc.enc (r_4.2 : List (Int × Int)))])) rfl rfl rfl (ht_cons (v := (eL r_5)) rfl rfl rfl ht_nil))) rfl rfl rfl ?_
  refine gm (rfl : (_ : V) = (.tup [(.agg [(ji r_6.1.1), (Enc.enc (r_6.1.2 : List (Int × Int)))]), (jb r_6.2)])) fun h25 => ?_
  refine g1 25 (.agg [(ji r_6.1.1), (Enc.enc (r_6.1.2 : List (Int × Int)))]) h25 fun h31 => ?_
  refine g1 25 (jb r_6.2) h25 fun h32 => ?_
  refine g_alloc h6 ?_
  refine g_store (.agg [(ji r_6.1.1), (Enc.enc (r_6.1.2 : List (Int × Int)))]) (rd_of rfl rfl) (rd_of h31 rfl) (by refine ⟨by decide, by decide, rfl, rfl, rfl, ?_⟩; first | rfl | simp [V.toks, V.tokss, Enc.toks_enc]) ?_
  refine gm (keep_mut h32 rfl) fun h7 => ?_
  refine gz [(1, (eL x_2)), (2, (.ref (.bx 2) 0 [] (.agg [(ji x_1.1), (Enc.enc (x_1.2 : List (Int × Int)))]))), (4, (jb false)), (6, (.ref (.bx 6) 0 [] (.agg [(ji r_6.1.1), (Enc.enc (r_6.1.2 : List (Int × Int)))]))), (7, _)] ⟨(keep_mut h1 (Enc.mut_enc _ _ _ _ (x_2 : List Int))), (keep_mut h2 (mut_ref_ne rfl rfl (mut_agg (muts_cons rfl (muts_cons (Enc.mut_enc _ _ _ _ (x_1.2 : List (Int × Int))) rfl))))), (keep_mut h4 rfl), (keep_mut rfl rfl), h7⟩ ?_
  rintro s ⟨h1, h2, h4, h6, h7⟩
  refine .nsq (.seq (run_reg ?_))
  refine e_clr ?_
  refine ez [(1, _), (2, _), (4, _), (6, _), (7, _), (8, _), (34, _)] ⟨(keep_clear (pk := [34, 8]) h1 rfl me), (keep_clear (pk := [34, 8]) h2 rfl (map_bx rfl (map_agg (maps_cons mi (maps_cons me maps_nil))))), (keep_clear (pk := [34, 8]) h4 rfl mb), (keep_clear (pk := [34, 8]) h6 rfl (map_bx rfl (map_agg (maps_cons mi (maps_cons me maps_nil))))), (keep_clear (pk := [34, 8]) h7 rfl mb), (gone_clear (pk := [34, 8]) (t := 8) rfl), (gone_clear (pk := [34, 8]) (t := 34) rfl)⟩ ?_
  rintro s ⟨h1, h2, h4, h6, h7, h8, h34⟩
  refine g1 2 (.agg [(ji x_1.1), (Enc.enc (x_1.2 : List (Int × Int)))]) h2 fun h33 => ?_
  obtain ⟨r_7, E_r_7, h⟩ := bind_some h
  refine g_callO (m := 1) (al := false) (r := (.agg [(Enc.enc (r_7.1 : Int)), (encO .sh (r_7.2 : NL (Int × Int)))])) (v := (.agg [(ji r_7.1), (encO (.at 34 [1]) (r_7.2 : NL (Int × Int)))])) (kk := 1000000017) [Enc.enc (x_1 : (Int × (List (Int × Int))))] (ta_cons (v := (.agg [(ji x_1.1), (Enc.enc (x_1.2 : List (Int × Int)))])) h33 rfl (Enc.erase_enc (x_1 : (Int × (List (Int × Int))))) ta_nil) (H.c17o _ _ E_r_7) H.g17o rfl (toks_agg (tokss_cons rfl (tokss_cons toks_encS tokss_nil))) (tag_agg (tags_cons rfl (tags_cons tag_encO tags_nil))) rfl h34 ?_
  refine g_alloc h8 ?_
  refine g_store (.agg [(ji r_7.1), (encO (.at 34 [1]) (r_7.2 : NL (Int × Int)))]) (rd_of rfl rfl) (rd_of rfl rfl) ⟨by decide, by decide, rfl, (by simp [V.shape, V.shapes, shape_encP, Sh.beq, Sh.beqs]), (by simp [V.shape, V.shapes, shape_encP, Sh.beq, Sh.beqs]), (by simp [V.toks, V.tokss, tok_memP])⟩ ?_
  refine gz [(1, (eL x_2)), (2, (.ref (.bx 2) 0 [] (.agg [(ji x_1.1), (Enc.enc (x_1.2 : List (Int × Int)))]))), (4, (jb false)), (6, (.ref (.bx 6) 0 [] (.agg [(ji r_6.1.1), (Enc.enc (r_6.1.2 : List (Int × Int)))]))), (7, (jb r_6.2)), (8, (.ref (.bx 8) 0 [] (.agg [(ji r_7.1), (encO (.at 34 [1]) (r_7.2 : NL (Int × Int)))])))] ⟨(keep_mut h1 (Enc.mut_enc _ _ _ _ (x_2 : List Int))), (keep_mut h2 (mut_ref_ne rfl rfl (mut_agg (muts_cons rfl (muts_cons (Enc.mut_enc _ _ _ _ (x_1.2 : List (Int × Int))) rfl))))), (keep_mut h4 rfl), (keep_mut h6 (mut_ref_ne rfl rfl (mut_agg (muts_cons rfl (muts_cons (Enc.mut_enc _ _ _ _ (r_6.1.2 : List (Int × Int))) rfl))))), (keep_mut h7 rfl), (keep_mut rfl rfl)⟩ ?_
  rintro s ⟨h1, h2, h4, h6, h7, h8⟩
  refine .nsq (.seq (run_reg ?_))
  refine e_clr ?_
  refine ez [(1, _), (2, _), (4, _), (6, _), (7, _), (8, _), (36, _)] ⟨(keep_clear (pk := [36]) h1 rfl me), (keep_clear (pk := [36]) h2 rfl (map_bx rfl (map_agg (maps_cons mi (maps_cons me maps_nil))))), (keep_clear (pk := [36]) h4 rfl mb), (keep_clear (pk := [36]) h6 rfl (map_bx rfl (map_agg (maps_cons mi (maps_cons me maps_nil))))), (keep_clear (pk := [36]) h7 rfl mb), (keep_clear (pk := [36]) h8 rfl (map_bx rfl (map_agg (maps_cons mi (maps_cons (map_encO (r := 34) (p := [1]) rfl rfl) maps_nil))))), (gone_clear (pk := [36]) (t := 36) rfl)⟩ ?_
  rintro s ⟨h1, h2, h4, h6, h7, h8, h36⟩
  refine gm h1 fun h35 => ?_
  obtain ⟨r_8, E_r_8, h⟩ := bind_some h
  refine g_callO (m := 1) (al := false) (r := (encO .sh (r_8 : NL Int))) (v := (oI 36 [] r_8)) (kk := 1000000018) [Enc.enc (x_2 : (List Int))] (ta_cons (v := (eL x_2)) h35 rfl (Enc.erase_enc (x_2 : (List Int))) ta_nil) (H.c18o _ _ E_r_8) H.g18o rfl toks_encS tag_encO ok_encP h36 ?_
  refine gv (oI 36 [] r_8) (ev_mov rfl ok_encO) fun h9 => ?_
  refine g_end ?_
  refine e_home (r := 36) (x := 9) (v := _) h9 ok_encO (fun s_5 hg_5 => ?_)
  refine ez [(1, (eL x_2)), (2, (.ref (.bx 2) 0 [] (.agg [(ji x_1.1), (Enc.enc (x_1.2 : List (Int × Int)))]))), (4, (jb false)), (6, (.ref (.bx 6) 0 [] (.agg [(ji r_6.1.1), (Enc.enc (r_6.1.2 : List (Int × Int)))]))), (7, (jb r_6.2)), (8, (.ref (.bx 8) 0 [] (.agg [(ji r_7.1), (encO (.at 34 [1]) (r_7.2 : NL (Int × Int)))]))), (9, (oI 9 [] r_8))] ⟨(hg_5 1 _ _ h1 me), (hg_5 2 _ _ h2 (map_bx rfl (map_agg (maps_cons mi (maps_cons me maps_nil))))), (hg_5 4 _ _ h4 mb), (hg_5 6 _ _ h6 (map_bx rfl (map_agg (maps_cons mi (maps_cons me maps_nil))))), (hg_5 7 _ _ h7 mb), (hg_5 8 _ (.ref (.bx 8) 0 [] (.agg [(ji r_7.1), (encO (.at 34 [1]) (r_7.2 : NL (Int × Int)))])) h8 (map_bx rfl (map_agg (maps_cons mi (maps_cons (map_encO (r := 34) (p := [1]) rfl rfl) maps_nil))))), (hg_5 9 _ _ h9 (map_encO (r := 36) (p := []) rfl rfl))⟩ ?_
  rintro s ⟨h1, h2, h4, h6, h7, h8, h9⟩
  refine .nsq (.seq (run_reg ?_))
  refine e_clr ?_
  refine ez [(1, _), (2, _), (4, _), (6, _), (7, _), (8, _), (9, _), (10, _), (40, _)] ⟨(keep_clear (pk := [40, 10]) h1 rfl me), (keep_clear (pk := [40, 10]) h2 rfl (map_bx rfl (map_agg (maps_cons mi (maps_cons me maps_nil))))), (keep_clear (pk := [40, 10]) h4 rfl mb), (keep_clear (pk := [40, 10]) h6 rfl (map_bx rfl (map_agg (maps_cons mi (maps_cons me maps_nil))))), (keep_clear (pk := [40, 10]) h7 rfl mb), (keep_clear (pk := [40, 10]) h8 rfl (map_bx rfl (map_agg (maps_cons mi (maps_cons (map_encO (r := 34) (p := [1]) rfl rfl) maps_nil))))), (keep_clear (pk := [40, 10]) h9 rfl (map_encO (r := 9) (p := []) rfl rfl)), (gone_clear (pk := [40, 10]) (t := 10) rfl), (gone_clear (pk := [40, 10]) (t := 40) rfl)⟩ ?_
  rintro s ⟨h1, h2, h4, h6, h7, h8, h9, h10, h40⟩
  refine gv (.agg [(ji r_7.1), (encO (.at 34 [1]) (r_7.2 : NL (Int × Int)))]) (ev_loadN (c := (.agg [(ji r_7.1), (encO (.at 34 [1]) (r_7.2 : NL (Int × Int)))])) h8 (by simp [V.shape, V.shapes, shape_encP, Sh.beq, Sh.beqs])) fun h38 => ?_
  refine gv (oI 9 [] r_8) (ev_mov h9 ok_encO) fun h39 => ?_
  obtain ⟨r_9, E_r_9, h⟩ := bind_some h
  refine g_callO (m := 1) (al := false) (r := (.tup [(.agg [(Enc.enc (r_9.1.1 : Int)), (encO .sh (r_9.1.2 : NL (Int × Int)))]), (Enc.enc (r_9.2 : Bool))])) (v := (.tup [(.agg [(ji r_9.1.1), (encO (.at 40 [0, 1]) (r_9.1.2 : NL (Int × Int)))]), (jb r_9.2)])) (kk := 1000000019) [Enc.enc ((r_7.1, r_7.2.list) : (Int × (List (Int × Int)))), Enc.enc (r_8.list : (List Int))] (ta_cons (v := (.agg [(ji r_7.1), (encO (.at 34 [1]) (r_7.2 : NL (Int × Int)))])) h38 rfl (erase_agg (erases_cons rfl (erases_cons (erase_encO (o := r_7.2)) erases_nil))) (ta_cons (v := (oI 9 [] r_8)) h39 ok_encP (erase_encO (o := r_8)) ta_nil)) (H.c19o _ _ _ E_r_9) H.g19o rfl (toks_tup (tokss_cons (toks_agg (tokss_cons rfl (tokss_cons toks_encS tokss_nil))) (tokss_cons rfl tokss_nil))) (tag_tup (tags_cons (tag_agg (tags_cons rfl (tags_cons tag_encO tags_nil))) (tags_cons rfl tags_nil))) rfl h40 ?_
  refine gm (rfl : (_ : V) = (.tup [(.agg [(ji r_9.1.1), (encO (.at 40 [0, 1]) (r_9.1.2 : NL (Int × Int)))]), (jb r_9.2)])) fun h37 => ?_
  refine gv (.agg [(ji r_9.1.1), (encO (.at 40 [0, 1]) (r_9.1.2 : NL (Int × Int)))]) (ev_extN (v := (.agg [(ji r_9.1.1), (encO (.at 40 [0, 1]) (r_9.1.2 : NL (Int × Int)))])) h37 rfl rfl) fun h41 => ?_
  refine g1 37 (jb r_9.2) h37 fun h42 => ?_
  refine g_alloc h10 ?_
  refine g_store (.agg [(ji r_9.1.1), (encO (.at 40 [0, 1]) (r_9.1.2 : NL (Int × Int)))]) (rd_of rfl rfl) (rd_of h41 rfl) ⟨by decide, by decide, rfl, (by simp [V.shape, V.shapes, shape_encP, Sh.beq, Sh.beqs]), (by simp [V.shape, V.shapes, shape_encP, Sh.beq, Sh.beqs]), (by simp [V.toks, V.tokss, tok_memP])⟩ ?_
  refine gm (keep_mut h42 rfl) fun h11 => ?_
  refine gz [(1, (eL x_2)), (2, (.ref (.bx 2) 0 [] (.agg [(ji x_1.1), (Enc.enc (x_1.2 : List (Int × Int)))]))), (4, (jb false)), (6, (.ref (.bx 6) 0 [] (.agg [(ji r_6.1.1), (Enc.enc (r_6.1.2 : List (Int × Int)))]))), (7, (jb r_6.2)), (8, (.ref (.bx 8) 0 [] (.agg [(ji r_7.1), (encO (.at 34 [1]) (r_7.2 : NL (Int × Int)))]))), (9, (oI 9 [] r_8)), (10, (.ref (.bx 10) 0 [] (.agg [(ji r_9.1.1), (encO (.at 40 [0, 1]) (r_9.1.2 : NL (Int × Int)))]))), (11, _)] ⟨(keep_mut h1 (Enc.mut_enc _ _ _ _ (x_2 : List Int))), (keep_mut h2 (mut_ref_ne rfl rfl (mut_agg (muts_cons rfl (muts_cons (Enc.mut_enc _ _ _ _ (x_1.2 : List (Int × Int))) rfl))))), (keep_mut h4 rfl), (keep_mut h6 (mut_ref_ne rfl rfl (mut_agg (muts_cons rfl (muts_cons (Enc.mut_enc _ _ _ _ (r_6.1.2 : List (Int × Int))) rfl))))), (keep_mut h7 rfl), (keep_mut h8 (mut_ref_ne rfl rfl (mut_agg (muts_cons rfl (muts_cons (mut_own_ne rfl rfl) rfl))))), (keep_mut h9 (mut_own_ne rfl rfl)), (keep_mut rfl rfl), h11⟩ ?_
  rintro s ⟨h1, h2, h4, h6, h7, h8, h9, h10, h11⟩
  refine .nsq (.seq (.seq (rg (gv (.agg [(ji r_9.1.1), (encO (.at 40 [0, 1]) (r_9.1.2 : NL (Int × Int)))]) (ev_loadN (c := (.agg [(ji r_9.1.1), (encO (.at 40 [0, 1]) (r_9.1.2 : NL (Int × Int)))])) h10 (by simp [V.shape, V.shapes, shape_encP, Sh.beq, Sh.beqs])) fun h43 => ?_))))
  refine g1 6 (.agg [(ji r_6.1.1), (Enc.enc (r_6.1.2 : List (Int × Int)))]) h6 fun h44 => ?_
  obtain ⟨r_31, E_r_31, h⟩ := bind_some h
  refine g_call (m := 0) (al := false) (r := (Enc.enc (r_31 : Bool))) [Enc.enc ((r_9.1.1, r_9.1.2.list) : (Int × (List (Int × Int)))), Enc.enc (r_6.1 : (Int × (List (Int × Int))))] (ta_cons (v := (.agg [(ji r_9.1.1), (encO (.at 40 [0, 1]) (r_9.1.2 : NL (Int × Int)))])) h43 rfl (erase_agg (erases_cons rfl (erases_cons (erase_encO (o := r_9.1.2)) erases_nil))) (ta_cons (v := (.agg [(ji r_6.1.1), (Enc.enc (r_6.1.2 : List (Int × Int)))])) h44 rfl (Enc.erase_enc (r_6.1 : (Int × (List (Int × Int))))) ta_nil)) (H.c20 _ _ _ E_r_31) H.g20 rfl rfl rfl rfl ?_
  refine g1 45 (jb (!r_31)) (rfl : (_ : V) = (jb r_31)) fun h46 => ?_
  refine gm h46 fun h47 => split_on (c := (!r_31)) h (fun hg5 h => ?_) (fun hg5 h => ?_)
  · refine g_no (h47.trans (congrArg V.bool hg5)) ?_
    refine g_no (h47.trans (congrArg V.bool hg5)) ?_
    refine g_no (h47.trans (congrArg V.bool hg5)) ?_
    refine g2 47 50 (jb true) (h47.trans (congrArg V.bool hg5)) (rfl : (_ : V) = (.tup [])) fun h51 => ?_
    refine gq ?_
    exact t_f3_j3 H x_2 x_1 r_6 r_7 r_8 r_9 true _ ⟨h1, h2, h4, h6, h7, h8, h9, h10, h11, h51⟩ h
  refine g_yes (h47.trans (congrArg V.bool hg5)) (gm h11 fun h48 => ?_)
  refine g_yes (h47.trans (congrArg V.bool hg5)) (gm h7 fun h49 => ?_)
  refine g_yes (h47.trans (congrArg V.bool hg5)) (g2 48 49 (jb (r_9.2 != r_6.2)) h48 h49 fun h50 => ?_)
  refine g2 47 50 (jb (r_9.2 != r_6.2)) (h47.trans (congrArg V.bool hg5)) h50 fun h51 => ?_
  refine gq ?_
  exact t_f3_j3 H x_2 x_1 r_6 r_7 r_8 r_9 (r_9.2 != r_6.2) _ ⟨h1, h2, h4, h6, h7, h8, h9, h10, h11, h51⟩ h
end
def e3 (F : Nat) : Ent := ent 3 (fun (x : ((Int × (List (Int × Int))) × (List Int) × Unit)) => w_FnExactFillingOf F x.1 x.2.1) (fun (r : Bool) => (Enc.enc (r : Bool))) 0 false []
theorem p3 {F : Nat} {x0 : (Int × (List (Int × Int)))} {x1 : (List Int)} {r : Bool} (h : w_FnExactFillingOf F x0 x1 = some r) : (e3 F).den [Enc.enc x0, Enc.enc x1] = some (Enc.enc (r : Bool)) := ent_put (x0, x1, ()) h
theorem o3 {D : Den} {σ : Sig} {F : Nat} (hF : Fits2 Try.prog D σ) (H : H3 D σ F) : (e3 F).Ok Try.prog := by
  refine ok_of (f := 3) (show unk 3 = 3 from rfl) (fun args r h => ?_) ⟨Try.f3, Try.func3, rfl, rfl⟩
  obtain ⟨⟨x0, x1, _⟩, y, rfl, hy, rfl⟩ := da_open h
  exact contract_run hF (by kernel_rfl) Try.func3 rfl c3 (show 2 ≤ Try.f3.ntmps by decide) (t3 H x0 x1 _ ⟨rfl, rfl⟩ hy)
end Go.Zq
