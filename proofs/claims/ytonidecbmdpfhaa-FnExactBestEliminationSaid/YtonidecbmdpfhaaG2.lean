/- Functions of the program as typed functions, and that the machine runs as they say (part 2). No further condition. -/
import Derived.Test.YtonidecbmdpfhaaK3
import Derived.Test.YtonidecbmdpfhaaProg
import Derived.Test.YtonidecbmdpfhaaChecked
import Derived.KernelRfl
import Derived.Test.YtonidecbmdpfhaaG1
set_option linter.unusedVariables false
set_option linter.unusedSimpArgs false
/- Functions of the program, as typed functions, and that the machine runs as they say. -/
namespace Go.Zq
open Go.Proofs
/- loop.example/g01109/spec.l5Rests -/
def A120_2 : AC := (.cond (.t 17) .skip (.exit 0))
def A120_8 : AC := (.cond (.t 27) .skip (.exit 2))
def A120_10 : AC := (.cond (.t 32) (.exit 3) .skip)
def A120_13 : AC := (.cond (.t 52) (.reg [] [(.mk (some 53) none false (.v (.mov (.t 8)))), (.mk (some 6) none false (.v (.mov (.t 53))))] []) .skip)
def A120_12 : AC := (.seq (.reg [] [(.mk (some 46) none false (.v (.mov (.t 6)))), (.mk (some 47) none false (.v (.bin .lss (.t 46) (.k (.int .i64 (.ofNat 0)))))), (.mk (some 48) none false (.v (.mov (.t 47)))), (.mk (some 49) (some (48, false)) false (.v (.mov (.t 8)))), (.mk (some 50) (some (48, false)) false (.v (.mov (.t 6)))), (.mk (some 51) (some (48, false)) false (.v (.bin .lss (.t 49) (.t 50)))), (.mk (some 52) none false (.v (.pick (.t 48) (.k (.bool true)) (.t 51))))] []) A120_13)
def A120_11 : AC := (.seq (.reg [.clr [36]] [(.mk (some 33) none false (.v (.load (.ag [.s, .p]) (.t 1)))), (.mk (some 34) none false (.v (.mov (.t 5)))), (.mk (some 35) none false (.v (.mov (.t 7)))), (.mk (some 36) none false (.callO (.k (.fn 121 [] [])) [(.t 33), (.t 34), (.t 35)])), (.mk (some 37) none false (.v (.len (.t 36)))), (.mk (some 38) none false (.v (.mov (.t 3)))), (.mk (some 39) none false (.v (.mov (.t 4)))), (.mk (some 40) none false (.v (.mov (.t 7)))), (.mk (some 41) none false (.v (.bin .shl (.k (.int .i64 (.ofNat 1))) (.t 40)))), (.mk (some 42) none false (.v (.bin .add (.t 39) (.t 41)))), (.mk (some 43) none false (.v (.idx (.t 38) (.t 42) 1))), (.mk (some 44) none false (.v (.load .s (.t 43)))), (.mk (some 45) none false (.call (.k (.fn 66 [] [])) [(.t 37), (.t 44)])), (.mk (some 8) none false (.v (.mov (.t 45))))] []) A120_12)
def A120_14 : AC := (.reg [] [(.mk (some 28) none false (.v (.mov (.t 7)))), (.mk (some 29) none false (.v (.bin .add (.t 28) (.k (.int .i64 (.ofNat 1)))))), (.mk (some 7) none false (.v (.mov (.t 29))))] [])
def A120_9 : AC := (.seq (.block 3 (.seq (.seq (.reg [] [(.mk (some 30) none false (.v (.mov (.t 5)))), (.mk (some 31) none false (.v (.mov (.t 7)))), (.mk (some 32) none false (.call (.k (.fn 68 [] [])) [(.t 30), (.t 31)]))] []) A120_10) A120_11)) A120_14)
def A120_7 : AC := (.seq (.seq (.reg [] [(.mk (some 24) none false (.v (.mov (.t 7)))), (.mk (some 25) none false (.v (.fld (.t 1) 0 0))), (.mk (some 26) none false (.v (.load .s (.t 25)))), (.mk (some 27) none false (.v (.bin .lss (.t 24) (.t 26))))] []) A120_8) A120_9)
def A120_6 : AC := (.block 2 (.loop A120_7))
def A120_15 : AC := (.reg [] [(.mk (some 54) none false (.v (.mov (.t 3)))), (.mk (some 55) none false (.v (.mov (.t 4)))), (.mk (some 56) none false (.v (.mov (.t 6)))), (.mk (some 57) none false (.v (.idx (.t 54) (.t 55) 1))), (.mk none none false (.store .s (.t 57) (.t 56)))] [])
def A120_5 : AC := (.seq (.seq (.reg [] [(.mk (some 7) none false (.v (.mov (.k (.int .i64 (.ofNat 0))))))] []) A120_6) A120_15)
def A120_4 : AC := (.seq (.reg [] [(.mk (some 6) none false (.v (.mov (.k (.int .i64 (.negSucc 0))))))] []) A120_5)
def A120_16 : AC := (.reg [] [(.mk (some 18) none false (.v (.mov (.t 4)))), (.mk (some 19) none false (.v (.bin .sub (.t 18) (.k (.int .i64 (.ofNat 1)))))), (.mk (some 4) none false (.v (.mov (.t 19))))] [])
def A120_3 : AC := (.seq (.block 1 (.seq (.reg [] [(.mk (some 20) none false (.v (.fld (.t 1) 0 0))), (.mk (some 21) none false (.v (.load .s (.t 20)))), (.mk (some 22) none false (.v (.mov (.t 4)))), (.mk (some 23) none false (.call (.k (.fn 56 [] [])) [(.t 21), (.t 22)])), (.mk (some 5) none false (.v (.mov (.t 23))))] []) A120_4)) A120_16)
def A120_1 : AC := (.seq (.seq (.reg [] [(.mk (some 16) none false (.v (.mov (.t 4)))), (.mk (some 17) none false (.v (.bin .geq (.t 16) (.k (.int .i64 (.ofNat 0))))))] []) A120_2) A120_3)
def A120_17 : AC := (.seq (.reg [] [(.mk (some 58) none false (.v (.mov (.t 3)))), (.mk (some 2) none false (.v (.mov (.t 58))))] [.home 3 2]) .ret)
def A120_20 : AC := (.block 0 (.loop A120_1))
def A120_19 : AC := (.seq (.seq (.reg [] [(.mk (some 13) none false (.v (.mov (.t 3)))), (.mk (some 14) none false (.v (.len (.t 13)))), (.mk (some 15) none false (.v (.bin .sub (.t 14) (.k (.int .i64 (.ofNat 1)))))), (.mk (some 4) none false (.v (.mov (.t 15))))] []) A120_20) A120_17)
def A120_18 : AC := (.seq (.reg [.clr [12]] [(.mk (some 9) none false (.v (.fld (.t 1) 0 0))), (.mk (some 10) none false (.v (.load .s (.t 9)))), (.mk (some 11) none false (.v (.bin .shl (.k (.int .i64 (.ofNat 1))) (.t 10)))), (.mk (some 12) none false (.mk (.t 11) (.int .i64 (.ofNat 0)))), (.mk (some 3) none false (.v (.mov (.t 12))))] [.home 12 3]) A120_19)
def A120 : AC := (.seq (.reg [.clr [1]] [(.mk (some 1) none false (.box (.t 0))), (.mk (some 2) none false (.v (.mov (.k (.sl .nl .s 0 [])))))] []) A120_18)
def an120 : List An := [{ id := 0, pre := [.clr [1]], ep := [], lin := [], sp := [] }, { id := 1, pre := [.clr [12]], ep := [.home 12 3], lin := [], sp := [] }, { id := 11, pre := [.clr [36]], ep := [], lin := [], sp := [1003] }, { id := 15, pre := [], ep := [.home 3 2], lin := [], sp := [] }]
theorem c120 : cC Try.prog Try.f120.ntmps an120 (Try.f120.body.getD .skip) = some A120 := by kernel_rfl
structure H120 (D : Den) (σ : Sig) (F : Nat) : Prop where
  c56 : ∀ (x0 : Int) (x1 : Int) r, s_l2Bits F x0 x1 = some r → D 56 [Enc.enc x0, Enc.enc x1] = some (Enc.enc (r : (List Int)))
  g56 : σ 56 = some (0, false)
  c68 : ∀ (x0 : (List Int)) (x1 : Int) r, s_l1Has F x0 x1 = some r → D 68 [Enc.enc x0, Enc.enc x1] = some (Enc.enc (r : Bool))
  g68 : σ 68 = some (0, false)
  c121o : ∀ (x0 : (Int × (List (Int × Int)))) (x1 : (List Int)) (x2 : Int) r, s_l5Later_o F x0 x1 x2 = some r → D 1000000121 [Enc.enc x0, Enc.enc x1, Enc.enc x2] = some (encO .sh (r : NL Int))
  g121o : σ 1000000121 = some (1, false)
  c66 : ∀ (x0 : Int) (x1 : Int) r, s_l1Most F x0 x1 = some r → D 66 [Enc.enc x0, Enc.enc x1] = some (Enc.enc (r : Int))
  g66 : σ 66 = some (0, false)
abbrev R120 (r : (List Int)) : (Nat → V) → Prop := RR Try.prog [.tmp 2] 0 false (Enc.enc (r : (List Int)))
section
variable {D : Den} {σ : Sig} {F : Nat} {r : (List Int)}
def s_l5Rests_j1 (F : Nat) (g_1 : (Int × (List (Int × Int)))) (out_29 : (List Int)) (code_30 : Int) (r_56 : (List Int)) (x_65 : Int) (c1 : (List Int) → Int → Option (List Int)) (c4 : Int → Int → Option (List Int)) (best_79 : Int) : Option (List Int) :=
  c4 best_79 (w64 (x_65 + 1))
theorem t_f120_j1 (H : H120 D σ F) (g_1 : (Int × (List (Int × Int)))) (out_29 : (List Int)) (code_30 : Int) (r_56 : (List Int)) (x_65 : Int) (c1 : (List Int) → Int → Option (List Int)) (Hc1 : ∀ (out_29 : (List Int)) (code_30 : Int) (s : Nat → V), Facts [(1, (.ref (.bx 1) 0 [] (.agg [(.int .i64 g_1.1), (Enc.enc (g_1.2 : List (Int × Int)))]))), (2, (.sl .nl (Enc.shp Int) 0 [])), (3, (encO (.at 3 []) (.of (out_29 : List Int)))), (4, (.int .i64 code_30))] s → c1 out_29 code_30 = some r → Run D σ (R120 r) (.run A120_1 [.lp A120_1, .bk 0, .sq A120_17]) s) (c4 : Int → Int → Option (List Int)) (Hc4 : ∀ (best_64 : Int) (x_65 : Int) (s : Nat → V), Facts [(1, (.ref (.bx 1) 0 [] (.agg [(.int .i64 g_1.1), (Enc.enc (g_1.2 : List (Int × Int)))]))), (2, (.sl .nl (Enc.shp Int) 0 [])), (3, (encO (.at 3 []) (.of (out_29 : List Int)))), (4, (.int .i64 code_30)), (5, (Enc.enc (r_56 : List Int))), (6, (.int .i64 best_64)), (7, (.int .i64 x_65))] s → c4 best_64 x_65 = some r → Run D σ (R120 r) (.run A120_7 [.lp A120_7, .bk 2, .sq A120_15, .bk 1, .sq A120_16, .lp A120_1, .bk 0, .sq A120_17]) s) (best_79 : Int) (s : Nat → V) (hs : Facts [(1, (.ref (.bx 1) 0 [] (.agg [(.int .i64 g_1.1), (Enc.enc (g_1.2 : List (Int × Int)))]))), (2, (.sl .nl (Enc.shp Int) 0 [])), (3, (encO (.at 3 []) (.of (out_29 : List Int)))), (4, (.int .i64 code_30)), (5, (Enc.enc (r_56 : List Int))), (6, (.int .i64 best_79)), (7, (.int .i64 x_65))] s) (h : s_l5Rests_j1 F g_1 out_29 code_30 r_56 x_65 c1 c4 best_79 = some r) : Run D σ (R120 r) (.nrm [.bk 3, .sq A120_14, .lp A120_7, .bk 2, .sq A120_15, .bk 1, .sq A120_16, .lp A120_1, .bk 0, .sq A120_17]) s := by
  unfold s_l5Rests_j1 at h
  obtain ⟨h1, h2, h3, h4, h5, h6, h7⟩ := hs
  refine .nbk ?_
  refine .nsq ?_
  refine run_reg ?_
  refine e_end ?_
  refine g_v1 (t := 7) (u := (.int .i64 x_65)) (.int .i64 x_65) h7 rfl rfl ?_
  refine g_v1 (t := 28) (u := (.int .i64 x_65)) (.int .i64 (w64 (x_65 + 1))) rfl rfl rfl ?_
  refine g_v1 (t := 29) (u := (.int .i64 (w64 (x_65 + 1)))) (.int .i64 (w64 (x_65 + 1))) rfl rfl rfl ?_
  refine g_end ?_
  refine e_end ?_
  refine renew [(1, (.ref (.bx 1) 0 [] (.agg [(.int .i64 g_1.1), (Enc.enc (g_1.2 : List (Int × Int)))]))), (2, (.sl .nl (Enc.shp Int) 0 [])), (3, (encO (.at 3 []) (.of (out_29 : List Int)))), (4, (.int .i64 code_30)), (5, (Enc.enc (r_56 : List Int))), (6, (.int .i64 best_79)), (7, (.int .i64 (w64 (x_65 + 1))))] ⟨h1, h2, h3, h4, h5, h6, rfl⟩ ?_
  rintro s ⟨h1, h2, h3, h4, h5, h6, h7⟩
  refine .nlp ?_
  exact Hc4 best_79 (w64 (x_65 + 1)) _ ⟨h1, h2, h3, h4, h5, h6, h7⟩ h
def s_l5Rests_j2 (F : Nat) (g_1 : (Int × (List (Int × Int)))) (out_29 : (List Int)) (code_30 : Int) (r_56 : (List Int)) (best_64 : Int) (x_65 : Int) (r_77 : Int) (c1 : (List Int) → Int → Option (List Int)) (c4 : Int → Int → Option (List Int)) (t52_78 : Bool) : Option (List Int) :=
  bif t52_78 then
    s_l5Rests_j1 F g_1 out_29 code_30 r_56 x_65 c1 c4 r_77
  else
    s_l5Rests_j1 F g_1 out_29 code_30 r_56 x_65 c1 c4 best_64
theorem t_f120_j2 (H : H120 D σ F) (g_1 : (Int × (List (Int × Int)))) (out_29 : (List Int)) (code_30 : Int) (r_56 : (List Int)) (best_64 : Int) (x_65 : Int) (r_77 : Int) (c1 : (List Int) → Int → Option (List Int)) (Hc1 : ∀ (out_29 : (List Int)) (code_30 : Int) (s : Nat → V), Facts [(1, (.ref (.bx 1) 0 [] (.agg [(.int .i64 g_1.1), (Enc.enc (g_1.2 : List (Int × Int)))]))), (2, (.sl .nl (Enc.shp Int) 0 [])), (3, (encO (.at 3 []) (.of (out_29 : List Int)))), (4, (.int .i64 code_30))] s → c1 out_29 code_30 = some r → Run D σ (R120 r) (.run A120_1 [.lp A120_1, .bk 0, .sq A120_17]) s) (c4 : Int → Int → Option (List Int)) (Hc4 : ∀ (best_64 : Int) (x_65 : Int) (s : Nat → V), Facts [(1, (.ref (.bx 1) 0 [] (.agg [(.int .i64 g_1.1), (Enc.enc (g_1.2 : List (Int × Int)))]))), (2, (.sl .nl (Enc.shp Int) 0 [])), (3, (encO (.at 3 []) (.of (out_29 : List Int)))), (4, (.int .i64 code_30)), (5, (Enc.enc (r_56 : List Int))), (6, (.int .i64 best_64)), (7, (.int .i64 x_65))] s → c4 best_64 x_65 = some r → Run D σ (R120 r) (.run A120_7 [.lp A120_7, .bk 2, .sq A120_15, .bk 1, .sq A120_16, .lp A120_1, .bk 0, .sq A120_17]) s) (t52_78 : Bool) (s : Nat → V) (hs : Facts [(1, (.ref (.bx 1) 0 [] (.agg [(.int .i64 g_1.1), (Enc.enc (g_1.2 : List (Int × Int)))]))), (2, (.sl .nl (Enc.shp Int) 0 [])), (3, (encO (.at 3 []) (.of (out_29 : List Int)))), (4, (.int .i64 code_30)), (5, (Enc.enc (r_56 : List Int))), (6, (.int .i64 best_64)), (7, (.int .i64 x_65)), (8, (.int .i64 r_77)), (52, (.bool t52_78))] s) (h : s_l5Rests_j2 F g_1 out_29 code_30 r_56 best_64 x_65 r_77 c1 c4 t52_78 = some r) : Run D σ (R120 r) (.nrm [.sq A120_13, .bk 3, .sq A120_14, .lp A120_7, .bk 2, .sq A120_15, .bk 1, .sq A120_16, .lp A120_1, .bk 0, .sq A120_17]) s := by
  unfold s_l5Rests_j2 at h
  obtain ⟨h1, h2, h3, h4, h5, h6, h7, h8, h52⟩ := hs
  refine .nsq ?_
  refine run_cond (t := t52_78) h52 h (fun h => ?_) (fun h => ?_)
  · refine run_reg ?_
    refine e_end ?_
    refine g_v1 (t := 8) (u := (.int .i64 r_77)) (.int .i64 r_77) h8 rfl rfl ?_
    refine g_v1 (t := 53) (u := (.int .i64 r_77)) (.int .i64 r_77) rfl rfl rfl ?_
    refine g_end ?_
    refine e_end ?_
    refine renew [(1, (.ref (.bx 1) 0 [] (.agg [(.int .i64 g_1.1), (Enc.enc (g_1.2 : List (Int × Int)))]))), (2, (.sl .nl (Enc.shp Int) 0 [])), (3, (encO (.at 3 []) (.of (out_29 : List Int)))), (4, (.int .i64 code_30)), (5, (Enc.enc (r_56 : List Int))), (6, (.int .i64 r_77)), (7, (.int .i64 x_65))] ⟨h1, h2, h3, h4, h5, rfl, h7⟩ ?_
    rintro s ⟨h1, h2, h3, h4, h5, h6, h7⟩
    exact t_f120_j1 H g_1 out_29 code_30 r_56 x_65 c1 Hc1 c4 Hc4 r_77 _ ⟨h1, h2, h3, h4, h5, h6, h7⟩ h
  · refine .skip ?_
    exact t_f120_j1 H g_1 out_29 code_30 r_56 x_65 c1 Hc1 c4 Hc4 best_64 _ ⟨h1, h2, h3, h4, h5, h6, h7⟩ h
def s_l5Rests_l1 (F : Nat) (g_1 : (Int × (List (Int × Int)))) (out_29 : (List Int)) (code_30 : Int) (r_56 : (List Int)) (c1 : (List Int) → Int → Option (List Int)) : Nat → Int → Int → Option (List Int)
  | 0, _, _ => none
  | k + 1, best_64, x_65 =>
    bif decide (x_65 < g_1.1) then
      (s_l1Has F r_56 x_65).bind fun r_73 =>
      bif r_73 then
        (s_l5Rests_l1 F g_1 out_29 code_30 r_56 c1 k) best_64 (w64 (x_65 + 1))
      else
        (s_l5Later_o F g_1 r_56 x_65).bind fun r_74 =>
        (shlI .i64 1 x_65).bind fun q_75 =>
        (idx out_29 (w64 (code_30 + q_75))).bind fun e_76 =>
        (s_l1Most F (r_74.list.length : Int) e_76).bind fun r_77 =>
        bif decide (best_64 < 0) then
          s_l5Rests_j2 F g_1 out_29 code_30 r_56 best_64 x_65 r_77 c1 (s_l5Rests_l1 F g_1 out_29 code_30 r_56 c1 k) true
        else
          s_l5Rests_j2 F g_1 out_29 code_30 r_56 best_64 x_65 r_77 c1 (s_l5Rests_l1 F g_1 out_29 code_30 r_56 c1 k) (decide (r_77 < best_64))
    else
      (idx out_29 code_30).bind fun e_80 =>
      c1 (out_29.set code_30.toNat best_64) (w64 (code_30 - 1))
theorem t_f120_l1 (H : H120 D σ F) (g_1 : (Int × (List (Int × Int)))) (out_29 : (List Int)) (code_30 : Int) (r_56 : (List Int)) (c1 : (List Int) → Int → Option (List Int)) (Hc1 : ∀ (out_29 : (List Int)) (code_30 : Int) (s : Nat → V), Facts [(1, (.ref (.bx 1) 0 [] (.agg [(.int .i64 g_1.1), (Enc.enc (g_1.2 : List (Int × Int)))]))), (2, (.sl .nl (Enc.shp Int) 0 [])), (3, (encO (.at 3 []) (.of (out_29 : List Int)))), (4, (.int .i64 code_30))] s → c1 out_29 code_30 = some r → Run D σ (R120 r) (.run A120_1 [.lp A120_1, .bk 0, .sq A120_17]) s) : ∀ (k : Nat) (best_64 : Int) (x_65 : Int) (s : Nat → V), Facts [(1, (.ref (.bx 1) 0 [] (.agg [(.int .i64 g_1.1), (Enc.enc (g_1.2 : List (Int × Int)))]))), (2, (.sl .nl (Enc.shp Int) 0 [])), (3, (encO (.at 3 []) (.of (out_29 : List Int)))), (4, (.int .i64 code_30)), (5, (Enc.enc (r_56 : List Int))), (6, (.int .i64 best_64)), (7, (.int .i64 x_65))] s → s_l5Rests_l1 F g_1 out_29 code_30 r_56 c1 k best_64 x_65 = some r → Run D σ (R120 r) (.run A120_7 [.lp A120_7, .bk 2, .sq A120_15, .bk 1, .sq A120_16, .lp A120_1, .bk 0, .sq A120_17]) s := by
  intro k
  induction k with
  | zero => intro best_64 x_65 s _ h; exact nomatch (h : (none : Option _) = some r)
  | succ k ih =>
    intro best_64 x_65 s hs h
    rw [s_l5Rests_l1] at h
    obtain ⟨h1, h2, h3, h4, h5, h6, h7⟩ := hs
    refine .seq ?_
    refine .seq ?_
    refine run_reg ?_
    refine e_end ?_
    refine g_v1 (t := 7) (u := (.int .i64 x_65)) (.int .i64 x_65) h7 rfl rfl ?_
    refine g_v1 (t := 1) (u := (.ref (.bx 1) 0 [] (.agg [(.int .i64 g_1.1), (Enc.enc (g_1.2 : List (Int × Int)))]))) (.ref (.bx 1) 0 [0] (.int .i64 g_1.1)) h1 rfl rfl ?_
    refine g_v1 (t := 25) (u := (.ref (.bx 1) 0 [0] (.int .i64 g_1.1))) (.int .i64 g_1.1) rfl rfl rfl ?_
    refine g_v2 (t1 := 24) (t2 := 26) (u1 := (.int .i64 x_65)) (u2 := (.int .i64 g_1.1)) (.bool (decide (x_65 < g_1.1))) rfl rfl rfl rfl ?_
    refine g_end ?_
    refine e_end ?_
    refine renew [(1, (.ref (.bx 1) 0 [] (.agg [(.int .i64 g_1.1), (Enc.enc (g_1.2 : List (Int × Int)))]))), (2, (.sl .nl (Enc.shp Int) 0 [])), (3, (encO (.at 3 []) (.of (out_29 : List Int)))), (4, (.int .i64 code_30)), (5, (Enc.enc (r_56 : List Int))), (6, (.int .i64 best_64)), (7, (.int .i64 x_65)), (27, (.bool (decide (x_65 < g_1.1))))] ⟨h1, h2, h3, h4, h5, h6, h7, rfl⟩ ?_
    rintro s ⟨h1, h2, h3, h4, h5, h6, h7, h27⟩
    refine .nsq ?_
    refine run_cond (t := decide (x_65 < g_1.1)) h27 h (fun h => ?_) (fun h => ?_)
    · refine .skip ?_
      refine .nsq ?_
      refine .seq ?_
      refine .block ?_
      refine .seq ?_
      refine .seq ?_
      refine run_reg ?_
      refine e_end ?_
      refine g_v1 (t := 5) (u := (Enc.enc (r_56 : List Int))) (Enc.enc (r_56 : List Int)) h5 rfl rfl ?_
      refine g_v1 (t := 7) (u := (.int .i64 x_65)) (.int .i64 x_65) h7 rfl rfl ?_
      obtain ⟨r_73, E_r_73, h⟩ := bind_some h
      refine g_call (m := 0) (al := false) (r := (Enc.enc (r_73 : Bool))) [Enc.enc (r_56 : (List Int)), Enc.enc (x_65 : Int)] (ta_cons (v := (Enc.enc (r_56 : List Int))) rfl rfl (Enc.erase_enc (r_56 : (List Int))) (ta_cons (v := (.int .i64 x_65)) rfl rfl rfl ta_nil)) (H.c68 _ _ _ E_r_73) H.g68 rfl rfl rfl rfl ?_
      refine g_end ?_
      refine e_end ?_
      refine renew [(1, (.ref (.bx 1) 0 [] (.agg [(.int .i64 g_1.1), (Enc.enc (g_1.2 : List (Int × Int)))]))), (2, (.sl .nl (Enc.shp Int) 0 [])), (3, (encO (.at 3 []) (.of (out_29 : List Int)))), (4, (.int .i64 code_30)), (5, (Enc.enc (r_56 : List Int))), (6, (.int .i64 best_64)), (7, (.int .i64 x_65)), (32, (.bool r_73))] ⟨h1, h2, h3, h4, h5, h6, h7, rfl⟩ ?_
      rintro s ⟨h1, h2, h3, h4, h5, h6, h7, h32⟩
      refine .nsq ?_
      refine run_cond (t := r_73) h32 h (fun h => ?_) (fun h => ?_)
      · refine .exit ?_
        refine .esq ?_
        refine .ebk ?_
        refine .nsq ?_
        refine run_reg ?_
        refine e_end ?_
        refine g_v1 (t := 7) (u := (.int .i64 x_65)) (.int .i64 x_65) h7 rfl rfl ?_
        refine g_v1 (t := 28) (u := (.int .i64 x_65)) (.int .i64 (w64 (x_65 + 1))) rfl rfl rfl ?_
        refine g_v1 (t := 29) (u := (.int .i64 (w64 (x_65 + 1)))) (.int .i64 (w64 (x_65 + 1))) rfl rfl rfl ?_
        refine g_end ?_
        refine e_end ?_
        refine renew [(1, (.ref (.bx 1) 0 [] (.agg [(.int .i64 g_1.1), (Enc.enc (g_1.2 : List (Int × Int)))]))), (2, (.sl .nl (Enc.shp Int) 0 [])), (3, (encO (.at 3 []) (.of (out_29 : List Int)))), (4, (.int .i64 code_30)), (5, (Enc.enc (r_56 : List Int))), (6, (.int .i64 best_64)), (7, (.int .i64 (w64 (x_65 + 1))))] ⟨h1, h2, h3, h4, h5, h6, rfl⟩ ?_
        rintro s ⟨h1, h2, h3, h4, h5, h6, h7⟩
        refine .nlp ?_
        exact ih best_64 (w64 (x_65 + 1)) _ ⟨h1, h2, h3, h4, h5, h6, h7⟩ h
      · refine .skip ?_
        refine .nsq ?_
        refine .seq ?_
        refine run_reg ?_
        refine e_clr ?_
        refine e_end ?_
        refine g_v1 (t := 1) (u := (.ref (.bx 1) 0 [] (.agg [(.int .i64 g_1.1), (Enc.enc (g_1.2 : List (Int × Int)))]))) (.agg [(.int .i64 g_1.1), (Enc.enc (g_1.2 : List (Int × Int)))]) (keep_clear (s := s) (pk := [36]) h1 rfl (map_bx rfl (map_agg (maps_cons rfl (maps_cons (Enc.map_enc _ (g_1.2 : List (Int × Int))) maps_nil))))) rfl rfl ?_
        refine g_v1 (t := 5) (u := (Enc.enc (r_56 : List Int))) (Enc.enc (r_56 : List Int)) (keep_clear (s := s) (pk := [36]) h5 rfl (Enc.map_enc _ (r_56 : List Int))) rfl rfl ?_
        refine g_v1 (t := 7) (u := (.int .i64 x_65)) (.int .i64 x_65) (keep_clear (s := s) (pk := [36]) h7 rfl rfl) rfl rfl ?_
        obtain ⟨r_74, E_r_74, h⟩ := bind_some h
        refine g_callO (m := 1) (al := false) (r := (encO .sh (r_74 : NL Int))) (v := (encO (.at 36 []) (r_74 : NL Int))) (kk := 1000000121) [Enc.enc (g_1 : (Int × (List (Int × Int)))), Enc.enc (r_56 : (List Int)), Enc.enc (x_65 : Int)] (ta_cons (v := (.agg [(.int .i64 g_1.1), (Enc.enc (g_1.2 : List (Int × Int)))])) rfl rfl (Enc.erase_enc (g_1 : (Int × (List (Int × Int))))) (ta_cons (v := (Enc.enc (r_56 : List Int))) rfl rfl (Enc.erase_enc (r_56 : (List Int))) (ta_cons (v := (.int .i64 x_65)) rfl rfl rfl ta_nil))) (H.c121o _ _ _ _ E_r_74) H.g121o rfl toks_encS tag_encO ok_encP (gone_clear (s := s) (pk := [36]) (t := 36) rfl) ?_
        refine g_v (.int .i64 (r_74.list.length : Int)) (ev_lenO (o := r_74) rfl) ?_
        refine g_v1 (t := 3) (u := (encO (.at 3 []) (.of (out_29 : List Int)))) (encO (.at 3 []) (.of (out_29 : List Int))) (keep_clear (s := s) (pk := [36]) h3 rfl (map_encO (r := 3) (p := []) rfl rfl)) rfl rfl ?_
        refine g_v1 (t := 4) (u := (.int .i64 code_30)) (.int .i64 code_30) (keep_clear (s := s) (pk := [36]) h4 rfl rfl) rfl rfl ?_
        refine g_v1 (t := 7) (u := (.int .i64 x_65)) (.int .i64 x_65) (keep_clear (s := s) (pk := [36]) h7 rfl rfl) rfl rfl ?_
        obtain ⟨q_75, E_q_75, h⟩ := bind_some h
        refine g_v (.int .i64 q_75) (ev_shl rfl rfl E_q_75) ?_
        refine g_v2 (t1 := 39) (t2 := 41) (u1 := (.int .i64 code_30)) (u2 := (.int .i64 q_75)) (.int .i64 (w64 (code_30 + q_75))) rfl rfl rfl rfl ?_
        obtain ⟨e_76, E_e_76, h⟩ := bind_some h
        refine g_v (.ref (.at 3 []) ((w64 (code_30 + q_75)).toNat) [] (.int .i64 e_76)) (ev_idxO (o := (.of out_29)) rfl rfl E_e_76 rfl) ?_
        refine g_v1 (t := 43) (u := (.ref (.at 3 []) ((w64 (code_30 + q_75)).toNat) [] (.int .i64 e_76))) (.int .i64 e_76) rfl rfl rfl ?_
        obtain ⟨r_77, E_r_77, h⟩ := bind_some h
        refine g_call (m := 0) (al := false) (r := (Enc.enc (r_77 : Int))) [Enc.enc ((r_74.list.length : Int) : Int), Enc.enc (e_76 : Int)] (ta_cons (v := (.int .i64 (r_74.list.length : Int))) rfl rfl rfl (ta_cons (v := (.int .i64 e_76)) rfl rfl rfl ta_nil)) (H.c66 _ _ _ E_r_77) H.g66 rfl rfl rfl rfl ?_
        refine g_v1 (t := 45) (u := (.int .i64 r_77)) (.int .i64 r_77) rfl rfl rfl ?_
        refine g_end ?_
        refine e_end ?_
        refine renew [(1, (.ref (.bx 1) 0 [] (.agg [(.int .i64 g_1.1), (Enc.enc (g_1.2 : List (Int × Int)))]))), (2, (.sl .nl (Enc.shp Int) 0 [])), (3, (encO (.at 3 []) (.of (out_29 : List Int)))), (4, (.int .i64 code_30)), (5, (Enc.enc (r_56 : List Int))), (6, (.int .i64 best_64)), (7, (.int .i64 x_65)), (8, (.int .i64 r_77))] ⟨(keep_clear (s := s) (pk := [36]) h1 rfl (map_bx rfl (map_agg (maps_cons rfl (maps_cons (Enc.map_enc _ (g_1.2 : List (Int × Int))) maps_nil))))), (keep_clear (s := s) (pk := [36]) h2 rfl rfl), (keep_clear (s := s) (pk := [36]) h3 rfl (map_encO (r := 3) (p := []) rfl rfl)), (keep_clear (s := s) (pk := [36]) h4 rfl rfl), (keep_clear (s := s) (pk := [36]) h5 rfl (Enc.map_enc _ (r_56 : List Int))), (keep_clear (s := s) (pk := [36]) h6 rfl rfl), (keep_clear (s := s) (pk := [36]) h7 rfl rfl), rfl⟩ ?_
        rintro s ⟨h1, h2, h3, h4, h5, h6, h7, h8⟩
        refine .nsq ?_
        refine .seq ?_
        refine run_reg ?_
        refine e_end ?_
        refine g_v1 (t := 6) (u := (.int .i64 best_64)) (.int .i64 best_64) h6 rfl rfl ?_
        refine g_v1 (t := 46) (u := (.int .i64 best_64)) (.bool (decide (best_64 < 0))) rfl rfl rfl ?_
        refine g_v1 (t := 47) (u := (.bool (decide (best_64 < 0)))) (.bool (decide (best_64 < 0))) rfl rfl rfl ?_
        refine split_on (c := decide (best_64 < 0)) h (fun hg3 h => ?_) (fun hg3 h => ?_)
        · refine g_no (Eq.trans (b := .bool (decide (best_64 < 0))) rfl (congrArg V.bool hg3)) ?_
          refine g_no (Eq.trans (b := .bool (decide (best_64 < 0))) rfl (congrArg V.bool hg3)) ?_
          refine g_no (Eq.trans (b := .bool (decide (best_64 < 0))) rfl (congrArg V.bool hg3)) ?_
          refine g_v2 (t1 := 48) (t2 := 51) (u1 := (.bool true)) (u2 := (.tup [])) (.bool true) (Eq.trans (b := .bool (decide (best_64 < 0))) rfl (congrArg V.bool hg3)) rfl rfl rfl ?_
          refine g_end ?_
          refine e_end ?_
          refine renew [(1, (.ref (.bx 1) 0 [] (.agg [(.int .i64 g_1.1), (Enc.enc (g_1.2 : List (Int × Int)))]))), (2, (.sl .nl (Enc.shp Int) 0 [])), (3, (encO (.at 3 []) (.of (out_29 : List Int)))), (4, (.int .i64 code_30)), (5, (Enc.enc (r_56 : List Int))), (6, (.int .i64 best_64)), (7, (.int .i64 x_65)), (8, (.int .i64 r_77)), (52, (.bool true))] ⟨h1, h2, h3, h4, h5, h6, h7, h8, rfl⟩ ?_
          rintro s ⟨h1, h2, h3, h4, h5, h6, h7, h8, h52⟩
          exact t_f120_j2 H g_1 out_29 code_30 r_56 best_64 x_65 r_77 c1 Hc1 (s_l5Rests_l1 F g_1 out_29 code_30 r_56 c1 k) ih true _ ⟨h1, h2, h3, h4, h5, h6, h7, h8, h52⟩ h
        · refine g_yes (Eq.trans (b := .bool (decide (best_64 < 0))) rfl (congrArg V.bool hg3)) (g_v1 (t := 8) (u := (.int .i64 r_77)) (.int .i64 r_77) h8 rfl rfl ?_)
          refine g_yes (Eq.trans (b := .bool (decide (best_64 < 0))) rfl (congrArg V.bool hg3)) (g_v1 (t := 6) (u := (.int .i64 best_64)) (.int .i64 best_64) h6 rfl rfl ?_)
          refine g_yes (Eq.trans (b := .bool (decide (best_64 < 0))) rfl (congrArg V.bool hg3)) (g_v2 (t1 := 49) (t2 := 50) (u1 := (.int .i64 r_77)) (u2 := (.int .i64 best_64)) (.bool (decide (r_77 < best_64))) rfl rfl rfl rfl ?_)
          refine g_v2 (t1 := 48) (t2 := 51) (u1 := (.bool false)) (u2 := (.bool (decide (r_77 < best_64)))) (.bool (decide (r_77 < best_64))) (Eq.trans (b := .bool (decide (best_64 < 0))) rfl (congrArg V.bool hg3)) rfl rfl rfl ?_
          refine g_end ?_
          refine e_end ?_
          refine renew [(1, (.ref (.bx 1) 0 [] (.agg [(.int .i64 g_1.1), (Enc.enc (g_1.2 : List (Int × Int)))]))), (2, (.sl .nl (Enc.shp Int) 0 [])), (3, (encO (.at 3 []) (.of (out_29 : List Int)))), (4, (.int .i64 code_30)), (5, (Enc.enc (r_56 : List Int))), (6, (.int .i64 best_64)), (7, (.int .i64 x_65)), (8, (.int .i64 r_77)), (52, (.bool (decide (r_77 < best_64))))] ⟨h1, h2, h3, h4, h5, h6, h7, h8, rfl⟩ ?_
          rintro s ⟨h1, h2, h3, h4, h5, h6, h7, h8, h52⟩
          exact t_f120_j2 H g_1 out_29 code_30 r_56 best_64 x_65 r_77 c1 Hc1 (s_l5Rests_l1 F g_1 out_29 code_30 r_56 c1 k) ih (decide (r_77 < best_64)) _ ⟨h1, h2, h3, h4, h5, h6, h7, h8, h52⟩ h
    · refine .exit ?_
      refine .esq ?_
      refine .elp ?_
      refine .ebk ?_
      refine .nsq ?_
      refine run_reg ?_
      refine e_end ?_
      refine g_v1 (t := 3) (u := (encO (.at 3 []) (.of (out_29 : List Int)))) (encO (.at 3 []) (.of (out_29 : List Int))) h3 rfl rfl ?_
      refine g_v1 (t := 4) (u := (.int .i64 code_30)) (.int .i64 code_30) h4 rfl rfl ?_
      refine g_v1 (t := 6) (u := (.int .i64 best_64)) (.int .i64 best_64) h6 rfl rfl ?_
      obtain ⟨e_80, E_e_80, h⟩ := bind_some h
      refine g_v (.ref (.at 3 []) code_30.toNat [] (.int .i64 e_80)) (ev_idxO (o := (.of out_29)) rfl rfl E_e_80 rfl) ?_
      refine g_store (.int .i64 best_64) (rd_of rfl rfl) (rd_of rfl rfl) (by refine ⟨by decide, by decide, rfl, rfl, rfl, ?_⟩; first | rfl | simp [V.toks, V.tokss, Enc.toks_enc]) ?_
      refine g_end ?_
      refine e_end ?_
      refine renew [(1, (.ref (.bx 1) 0 [] (.agg [(.int .i64 g_1.1), (Enc.enc (g_1.2 : List (Int × Int)))]))), (2, (.sl .nl (Enc.shp Int) 0 [])), (3, (encO (.at 3 []) (.of (out_29.set code_30.toNat best_64 : List Int)))), (4, (.int .i64 code_30))] ⟨(keep_mut h1 (mut_ref_ne rfl rfl (mut_agg (muts_cons rfl (muts_cons (Enc.mut_enc _ _ _ _ (g_1.2 : List (Int × Int))) rfl))))), (keep_mut h2 rfl), (keep_mut h3 mut_own), (keep_mut h4 rfl)⟩ ?_
      rintro s ⟨h1, h2, h3, h4⟩
      refine .nbk ?_
      refine .nsq ?_
      refine run_reg ?_
      refine e_end ?_
      refine g_v1 (t := 4) (u := (.int .i64 code_30)) (.int .i64 code_30) h4 rfl rfl ?_
      refine g_v1 (t := 18) (u := (.int .i64 code_30)) (.int .i64 (w64 (code_30 - 1))) rfl rfl rfl ?_
      refine g_v1 (t := 19) (u := (.int .i64 (w64 (code_30 - 1)))) (.int .i64 (w64 (code_30 - 1))) rfl rfl rfl ?_
      refine g_end ?_
      refine e_end ?_
      refine renew [(1, (.ref (.bx 1) 0 [] (.agg [(.int .i64 g_1.1), (Enc.enc (g_1.2 : List (Int × Int)))]))), (2, (.sl .nl (Enc.shp Int) 0 [])), (3, (encO (.at 3 []) (.of (out_29.set code_30.toNat best_64 : List Int)))), (4, (.int .i64 (w64 (code_30 - 1))))] ⟨h1, h2, h3, rfl⟩ ?_
      rintro s ⟨h1, h2, h3, h4⟩
      refine .nlp ?_
      exact Hc1 (out_29.set code_30.toNat best_64) (w64 (code_30 - 1)) _ ⟨h1, h2, h3, h4⟩ h
def s_l5Rests_l2 (F : Nat) (g_1 : (Int × (List (Int × Int))))  : Nat → (List Int) → Int → Option (List Int)
  | 0, _, _ => none
  | k + 1, out_29, code_30 =>
    bif decide (code_30 ≥ 0) then
      (s_l2Bits F g_1.1 code_30).bind fun r_56 =>
      s_l5Rests_l1 F g_1 out_29 code_30 r_56 (s_l5Rests_l2 F g_1 k) F (-1) 0
    else
      some out_29
theorem t_f120_l2 (H : H120 D σ F) (g_1 : (Int × (List (Int × Int))))  : ∀ (k : Nat) (out_29 : (List Int)) (code_30 : Int) (s : Nat → V), Facts [(1, (.ref (.bx 1) 0 [] (.agg [(.int .i64 g_1.1), (Enc.enc (g_1.2 : List (Int × Int)))]))), (2, (.sl .nl (Enc.shp Int) 0 [])), (3, (encO (.at 3 []) (.of (out_29 : List Int)))), (4, (.int .i64 code_30))] s → s_l5Rests_l2 F g_1 k out_29 code_30 = some r → Run D σ (R120 r) (.run A120_1 [.lp A120_1, .bk 0, .sq A120_17]) s := by
  intro k
  induction k with
  | zero => intro out_29 code_30 s _ h; exact nomatch (h : (none : Option _) = some r)
  | succ k ih =>
    intro out_29 code_30 s hs h
    rw [s_l5Rests_l2] at h
    obtain ⟨h1, h2, h3, h4⟩ := hs
    refine .seq ?_
    refine .seq ?_
    refine run_reg ?_
    refine e_end ?_
    refine g_v1 (t := 4) (u := (.int .i64 code_30)) (.int .i64 code_30) h4 rfl rfl ?_
    refine g_v1 (t := 16) (u := (.int .i64 code_30)) (.bool (decide (code_30 ≥ 0))) rfl rfl rfl ?_
    refine g_end ?_
    refine e_end ?_
    refine renew [(1, (.ref (.bx 1) 0 [] (.agg [(.int .i64 g_1.1), (Enc.enc (g_1.2 : List (Int × Int)))]))), (2, (.sl .nl (Enc.shp Int) 0 [])), (3, (encO (.at 3 []) (.of (out_29 : List Int)))), (4, (.int .i64 code_30)), (17, (.bool (decide (code_30 ≥ 0))))] ⟨h1, h2, h3, h4, rfl⟩ ?_
    rintro s ⟨h1, h2, h3, h4, h17⟩
    refine .nsq ?_
    refine run_cond (t := decide (code_30 ≥ 0)) h17 h (fun h => ?_) (fun h => ?_)
    · refine .skip ?_
      refine .nsq ?_
      refine .seq ?_
      refine .block ?_
      refine .seq ?_
      refine run_reg ?_
      refine e_end ?_
      refine g_v1 (t := 1) (u := (.ref (.bx 1) 0 [] (.agg [(.int .i64 g_1.1), (Enc.enc (g_1.2 : List (Int × Int)))]))) (.ref (.bx 1) 0 [0] (.int .i64 g_1.1)) h1 rfl rfl ?_
      refine g_v1 (t := 20) (u := (.ref (.bx 1) 0 [0] (.int .i64 g_1.1))) (.int .i64 g_1.1) rfl rfl rfl ?_
      refine g_v1 (t := 4) (u := (.int .i64 code_30)) (.int .i64 code_30) h4 rfl rfl ?_
      obtain ⟨r_56, E_r_56, h⟩ := bind_some h
      refine g_call (m := 0) (al := false) (r := (Enc.enc (r_56 : (List Int)))) [Enc.enc (g_1.1 : Int), Enc.enc (code_30 : Int)] (ta_cons (v := (.int .i64 g_1.1)) rfl rfl rfl (ta_cons (v := (.int .i64 code_30)) rfl rfl rfl ta_nil)) (H.c56 _ _ _ E_r_56) H.g56 rfl rfl rfl rfl ?_
      refine g_v1 (t := 23) (u := (Enc.enc (r_56 : List Int))) (Enc.enc (r_56 : List Int)) rfl rfl rfl ?_
      refine g_end ?_
      refine e_end ?_
      refine renew [(1, (.ref (.bx 1) 0 [] (.agg [(.int .i64 g_1.1), (Enc.enc (g_1.2 : List (Int × Int)))]))), (2, (.sl .nl (Enc.shp Int) 0 [])), (3, (encO (.at 3 []) (.of (out_29 : List Int)))), (4, (.int .i64 code_30)), (5, (Enc.enc (r_56 : List Int)))] ⟨h1, h2, h3, h4, rfl⟩ ?_
      rintro s ⟨h1, h2, h3, h4, h5⟩
      refine .nsq ?_
      refine .seq ?_
      refine run_reg ?_
      refine e_end ?_
      refine g_v0 (.int .i64 (-1)) rfl rfl ?_
      refine g_end ?_
      refine e_end ?_
      refine renew [(1, (.ref (.bx 1) 0 [] (.agg [(.int .i64 g_1.1), (Enc.enc (g_1.2 : List (Int × Int)))]))), (2, (.sl .nl (Enc.shp Int) 0 [])), (3, (encO (.at 3 []) (.of (out_29 : List Int)))), (4, (.int .i64 code_30)), (5, (Enc.enc (r_56 : List Int))), (6, (.int .i64 (-1)))] ⟨h1, h2, h3, h4, h5, rfl⟩ ?_
      rintro s ⟨h1, h2, h3, h4, h5, h6⟩
      refine .nsq ?_
      refine .seq ?_
      refine .seq ?_
      refine run_reg ?_
      refine e_end ?_
      refine g_v0 (.int .i64 0) rfl rfl ?_
      refine g_end ?_
      refine e_end ?_
      refine renew [(1, (.ref (.bx 1) 0 [] (.agg [(.int .i64 g_1.1), (Enc.enc (g_1.2 : List (Int × Int)))]))), (2, (.sl .nl (Enc.shp Int) 0 [])), (3, (encO (.at 3 []) (.of (out_29 : List Int)))), (4, (.int .i64 code_30)), (5, (Enc.enc (r_56 : List Int))), (6, (.int .i64 (-1))), (7, (.int .i64 0))] ⟨h1, h2, h3, h4, h5, h6, rfl⟩ ?_
      rintro s ⟨h1, h2, h3, h4, h5, h6, h7⟩
      refine .nsq ?_
      refine .block ?_
      refine .loop ?_
      exact t_f120_l1 H g_1 out_29 code_30 r_56 (s_l5Rests_l2 F g_1 k) ih F (-1) 0 _ ⟨h1, h2, h3, h4, h5, h6, h7⟩ h
    · refine .exit ?_
      refine .esq ?_
      refine .elp ?_
      refine .ebk ?_
      refine .nsq ?_
      refine .seq ?_
      refine run_reg ?_
      refine e_end ?_
      refine g_v1 (t := 3) (u := (encO (.at 3 []) (.of (out_29 : List Int)))) (encO (.at 3 []) (.of (out_29 : List Int))) h3 rfl rfl ?_
      refine g_v1 (t := 58) (u := (encO (.at 3 []) (.of (out_29 : List Int)))) (encO (.at 3 []) (.of (out_29 : List Int))) rfl rfl rfl ?_
      refine g_end ?_
      refine e_home (r := 3) (x := 2) (v := (encO (.at 3 []) (.of (out_29 : List Int)))) (by exact rfl) rfl (fun s_13 hg_13 => ?_)
      refine e_end ?_
      refine renew [(2, (encO (.at 2 []) (.of (out_29 : List Int))))] (hg_13 2 (encO (.at 3 []) (.of (out_29 : List Int))) (encO (.at 2 []) (.of (out_29 : List Int))) rfl (map_encO (r := 3) (p := []) rfl rfl)) ?_
      rintro s h2
      refine .nsq ?_
      refine .ret ?_
      have hr := Option.some.inj h
      subst hr
      exact rrA (res_tmp h2) (fin_retF (fin_own (o := .of out_29)) (mine_own rfl))
def s_l5Rests (F : Nat) (g_1 : (Int × (List (Int × Int)))) : Option (List Int) :=
  (shlI .i64 1 g_1.1).bind fun q_2 =>
  (mkN q_2 (0 : Int)).bind fun mk_3 =>
  s_l5Rests_l2 F g_1 F mk_3 (w64 ((mk_3.length : Int) - 1))
theorem t120 (H : H120 D σ F) (g_1 : (Int × (List (Int × Int)))) (s : Nat → V) (hs : Facts [(0, (.agg [(.int .i64 g_1.1), (Enc.enc (g_1.2 : List (Int × Int)))]))] s) (h : s_l5Rests F g_1 = some r) : Run D σ (R120 r) (.run A120 []) s := by
  unfold s_l5Rests at h
  have h0 := hs
  refine .seq ?_
  refine run_reg ?_
  refine e_clr ?_
  refine e_end ?_
  refine g_box (.agg [(.int .i64 g_1.1), (Enc.enc (g_1.2 : List (Int × Int)))]) (rd_of (keep_clear (s := s) (pk := [1]) h0 rfl (map_agg (maps_cons rfl (maps_cons (Enc.map_enc _ (g_1.2 : List (Int × Int))) maps_nil)))) rfl) (gone_clear (s := s) (pk := [1]) (t := 1) rfl) rfl ?_
  refine g_v0 (.sl .nl (Enc.shp Int) 0 []) rfl rfl ?_
  refine g_end ?_
  refine e_end ?_
  refine renew [(1, (.ref (.bx 1) 0 [] (.agg [(.int .i64 g_1.1), (Enc.enc (g_1.2 : List (Int × Int)))]))), (2, (.sl .nl (Enc.shp Int) 0 []))] ⟨rfl, rfl⟩ ?_
  rintro s ⟨h1, h2⟩
  refine .nsq ?_
  refine .seq ?_
  refine run_reg ?_
  refine e_clr ?_
  refine e_end ?_
  refine g_v1 (t := 1) (u := (.ref (.bx 1) 0 [] (.agg [(.int .i64 g_1.1), (Enc.enc (g_1.2 : List (Int × Int)))]))) (.ref (.bx 1) 0 [0] (.int .i64 g_1.1)) (keep_clear (s := s) (pk := [12]) h1 rfl (map_bx rfl (map_agg (maps_cons rfl (maps_cons (Enc.map_enc _ (g_1.2 : List (Int × Int))) maps_nil))))) rfl rfl ?_
  refine g_v1 (t := 9) (u := (.ref (.bx 1) 0 [0] (.int .i64 g_1.1))) (.int .i64 g_1.1) rfl rfl rfl ?_
  obtain ⟨q_2, E_q_2, h⟩ := bind_some h
  refine g_v (.int .i64 q_2) (ev_shl rfl rfl E_q_2) ?_
  obtain ⟨mk_3, E_mk_3, h⟩ := bind_some h
  refine g_mk (0 : Int) rfl rfl (gone_clear (s := s) (pk := [12]) (t := 12) rfl) E_mk_3 ?_
  refine g_v1 (t := 12) (u := (encO (.at 12 []) (.of (mk_3 : List Int)))) (encO (.at 12 []) (.of (mk_3 : List Int))) rfl rfl rfl ?_
  refine g_end ?_
  refine e_home (r := 12) (x := 3) (v := (encO (.at 12 []) (.of (mk_3 : List Int)))) (by exact rfl) rfl (fun s_3 hg_3 => ?_)
  refine e_end ?_
  refine renew [(1, (.ref (.bx 1) 0 [] (.agg [(.int .i64 g_1.1), (Enc.enc (g_1.2 : List (Int × Int)))]))), (2, (.sl .nl (Enc.shp Int) 0 [])), (3, (encO (.at 3 []) (.of (mk_3 : List Int))))] ⟨(hg_3 1 (.ref (.bx 1) 0 [] (.agg [(.int .i64 g_1.1), (Enc.enc (g_1.2 : List (Int × Int)))])) (.ref (.bx 1) 0 [] (.agg [(.int .i64 g_1.1), (Enc.enc (g_1.2 : List (Int × Int)))])) (keep_clear (s := s) (pk := [12]) h1 rfl (map_bx rfl (map_agg (maps_cons rfl (maps_cons (Enc.map_enc _ (g_1.2 : List (Int × Int))) maps_nil))))) (map_bx rfl (map_agg (maps_cons rfl (maps_cons (Enc.map_enc _ (g_1.2 : List (Int × Int))) maps_nil))))), (hg_3 2 (.sl .nl (Enc.shp Int) 0 []) (.sl .nl (Enc.shp Int) 0 []) (keep_clear (s := s) (pk := [12]) h2 rfl rfl) rfl), (hg_3 3 (encO (.at 12 []) (.of (mk_3 : List Int))) (encO (.at 3 []) (.of (mk_3 : List Int))) rfl (map_encO (r := 12) (p := []) rfl rfl))⟩ ?_
  rintro s ⟨h1, h2, h3⟩
  refine .nsq ?_
  refine .seq ?_
  refine .seq ?_
  refine run_reg ?_
  refine e_end ?_
  refine g_v1 (t := 3) (u := (encO (.at 3 []) (.of (mk_3 : List Int)))) (encO (.at 3 []) (.of (mk_3 : List Int))) h3 rfl rfl ?_
  refine g_v (.int .i64 (mk_3.length : Int)) (ev_lenO (o := .of mk_3) rfl) ?_
  refine g_v1 (t := 14) (u := (.int .i64 (mk_3.length : Int))) (.int .i64 (w64 ((mk_3.length : Int) - 1))) rfl rfl rfl ?_
  refine g_v1 (t := 15) (u := (.int .i64 (w64 ((mk_3.length : Int) - 1)))) (.int .i64 (w64 ((mk_3.length : Int) - 1))) rfl rfl rfl ?_
  refine g_end ?_
  refine e_end ?_
  refine renew [(1, (.ref (.bx 1) 0 [] (.agg [(.int .i64 g_1.1), (Enc.enc (g_1.2 : List (Int × Int)))]))), (2, (.sl .nl (Enc.shp Int) 0 [])), (3, (encO (.at 3 []) (.of (mk_3 : List Int)))), (4, (.int .i64 (w64 ((mk_3.length : Int) - 1))))] ⟨h1, h2, h3, rfl⟩ ?_
  rintro s ⟨h1, h2, h3, h4⟩
  refine .nsq ?_
  refine .block ?_
  refine .loop ?_
  exact t_f120_l2 H g_1 F mk_3 (w64 ((mk_3.length : Int) - 1)) _ ⟨h1, h2, h3, h4⟩ h
end
def e120 (F : Nat) : Ent := ⟨120, da (fun (x : ((Int × (List (Int × Int))) × Unit)) => s_l5Rests F x.1) (fun (r : (List Int)) => (Enc.enc (r : (List Int)))), 0, false, selF []⟩
theorem p120 {F : Nat} {x0 : (Int × (List (Int × Int)))} {r : (List Int)} (h : s_l5Rests F x0 = some r) : (e120 F).den [Enc.enc x0] = some (Enc.enc (r : (List Int))) := da_put (f := fun (x : ((Int × (List (Int × Int))) × Unit)) => s_l5Rests F x.1) (t := fun (r : (List Int)) => (Enc.enc (r : (List Int)))) (x0, ()) h
theorem o120 {D : Den} {σ : Sig} {F : Nat} (hF : Fits2 Try.prog D σ) (H : H120 D σ F) : (e120 F).Ok Try.prog := by
  refine ok_of (f := 120) (show unk 120 = 120 from rfl) (fun args r h => ?_) ⟨Try.f120, Try.func120, rfl, rfl⟩
  obtain ⟨⟨x0, _⟩, y, rfl, hy, rfl⟩ := da_open h
  exact contract_run hF (by kernel_rfl) Try.func120 rfl c120 (show 1 ≤ Try.f120.ntmps by decide) (t120 H x0 _ rfl hy)
/- loop.example/g01109/spec.l5Best -/
def A92_2 : AC := (.cond (.t 14) .skip (.exit 0))
def A92_6 : AC := (.cond (.t 41) .skip (.exit 2))
def A92_7 : AC := (.block 3 (.reg [] [(.mk (some 42) none false (.v (.mov (.t 6)))), (.mk (some 43) none false (.v (.bin .add (.t 42) (.k (.int .i64 (.ofNat 1)))))), (.mk (some 6) none false (.v (.mov (.t 43))))] []))
def A92_5 : AC := (.seq (.seq (.reg [.clr [22]] [(.mk (some 15) none false (.v (.mov (.t 4)))), (.mk (some 16) none false (.v (.mov (.t 6)))), (.mk (some 17) none false (.call (.k (.fn 68 [] [])) [(.t 15), (.t 16)])), (.mk (some 18) none false (.v (.mov (.t 17)))), (.mk (some 19) (some (18, false)) false (.v (.load (.ag [.s, .p]) (.t 1)))), (.mk (some 20) (some (18, false)) false (.v (.mov (.t 4)))), (.mk (some 21) (some (18, false)) false (.v (.mov (.t 6)))), (.mk (some 22) (some (18, false)) false (.callO (.k (.fn 121 [] [])) [(.t 19), (.t 20), (.t 21)])), (.mk (some 23) (some (18, false)) false (.v (.len (.t 22)))), (.mk (some 24) (some (18, false)) false (.v (.mov (.t 3)))), (.mk (some 25) (some (18, false)) false (.v (.idx (.t 24) (.k (.int .i64 (.ofNat 0))) 1))), (.mk (some 26) (some (18, false)) false (.v (.load .s (.t 25)))), (.mk (some 27) (some (18, false)) false (.v (.bin .gtr (.t 23) (.t 26)))), (.mk (some 28) none false (.v (.pick (.t 18) (.k (.bool true)) (.t 27)))), (.mk (some 29) none false (.v (.mov (.t 28)))), (.mk (some 30) (some (29, false)) false (.v (.mov (.t 3)))), (.mk (some 31) (some (29, false)) false (.v (.mov (.t 5)))), (.mk (some 32) (some (29, false)) false (.v (.mov (.t 6)))), (.mk (some 33) (some (29, false)) false (.v (.bin .shl (.k (.int .i64 (.ofNat 1))) (.t 32)))), (.mk (some 34) (some (29, false)) false (.v (.bin .add (.t 31) (.t 33)))), (.mk (some 35) (some (29, false)) false (.v (.idx (.t 30) (.t 34) 1))), (.mk (some 36) (some (29, false)) false (.v (.load .s (.t 35)))), (.mk (some 37) (some (29, false)) false (.v (.mov (.t 3)))), (.mk (some 38) (some (29, false)) false (.v (.idx (.t 37) (.k (.int .i64 (.ofNat 0))) 1))), (.mk (some 39) (some (29, false)) false (.v (.load .s (.t 38)))), (.mk (some 40) (some (29, false)) false (.v (.bin .gtr (.t 36) (.t 39)))), (.mk (some 41) none false (.v (.pick (.t 29) (.k (.bool true)) (.t 40))))] []) A92_6) A92_7)
def A92_9 : AC := (.reg [] [(.mk (some 48) none false (.v (.mov (.t 5)))), (.mk (some 49) none false (.v (.mov (.t 6)))), (.mk (some 50) none false (.v (.bin .shl (.k (.int .i64 (.ofNat 1))) (.t 49)))), (.mk (some 51) none false (.v (.bin .add (.t 48) (.t 50)))), (.mk (some 5) none false (.v (.mov (.t 51))))] [])
def A92_8 : AC := (.seq (.reg [.clr [46, 47]] [(.mk (some 44) none false (.v (.mov (.t 4)))), (.mk (some 45) none false (.v (.mov (.t 6)))), (.mk (some 46) none false (.lit (.int .i64 (.ofNat 0)) 1 [(0, 0, (.t 45))])), (.mk (some 47) none false (.app .s (.t 44) (.t 46))), (.mk (some 4) none false (.v (.mov (.t 47))))] [.home 47 4]) A92_9)
def A92_4 : AC := (.seq (.block 2 (.loop A92_5)) A92_8)
def A92_3 : AC := (.block 1 (.seq (.reg [] [(.mk (some 6) none false (.v (.mov (.k (.int .i64 (.ofNat 0))))))] []) A92_4))
def A92_1 : AC := (.seq (.seq (.reg [] [(.mk (some 10) none false (.v (.mov (.t 4)))), (.mk (some 11) none false (.v (.len (.t 10)))), (.mk (some 12) none false (.v (.fld (.t 1) 0 0))), (.mk (some 13) none false (.v (.load .s (.t 12)))), (.mk (some 14) none false (.v (.bin .lss (.t 11) (.t 13))))] []) A92_2) A92_3)
def A92_10 : AC := (.seq (.reg [] [(.mk (some 52) none false (.v (.mov (.t 4)))), (.mk (some 2) none false (.v (.mov (.t 52))))] [.home 4 2]) .ret)
def A92_14 : AC := (.seq (.block 0 (.loop A92_1)) A92_10)
def A92_13 : AC := (.seq (.reg [] [(.mk (some 5) none false (.v (.mov (.k (.int .i64 (.ofNat 0))))))] []) A92_14)
def A92_12 : AC := (.seq (.reg [.clr [9]] [(.mk (some 9) none false (.lit (.int .i64 (.ofNat 0)) 0 [])), (.mk (some 4) none false (.v (.mov (.t 9))))] [.home 9 4]) A92_13)
def A92_11 : AC := (.seq (.reg [] [(.mk (some 7) none false (.v (.load (.ag [.s, .p]) (.t 1)))), (.mk (some 8) none false (.call (.k (.fn 120 [] [])) [(.t 7)])), (.mk (some 3) none false (.v (.mov (.t 8))))] []) A92_12)
def A92 : AC := (.seq (.reg [.clr [1]] [(.mk (some 1) none false (.box (.t 0))), (.mk (some 2) none false (.v (.mov (.k (.sl .nl .s 0 [])))))] []) A92_11)
def an92 : List An := [{ id := 0, pre := [.clr [1]], ep := [], lin := [], sp := [] }, { id := 2, pre := [.clr [9]], ep := [.home 9 4], lin := [], sp := [] }, { id := 6, pre := [.clr [22]], ep := [], lin := [], sp := [1007] }, { id := 8, pre := [.clr [46, 47]], ep := [.home 47 4], lin := [], sp := [] }, { id := 10, pre := [], ep := [.home 4 2], lin := [], sp := [] }]
theorem c92 : cC Try.prog Try.f92.ntmps an92 (Try.f92.body.getD .skip) = some A92 := by kernel_rfl
structure H92 (D : Den) (σ : Sig) (F : Nat) : Prop where
  c120 : ∀ (x0 : (Int × (List (Int × Int)))) r, s_l5Rests F x0 = some r → D 120 [Enc.enc x0] = some (Enc.enc (r : (List Int)))
  g120 : σ 120 = some (0, false)
  c68 : ∀ (x0 : (List Int)) (x1 : Int) r, s_l1Has F x0 x1 = some r → D 68 [Enc.enc x0, Enc.enc x1] = some (Enc.enc (r : Bool))
  g68 : σ 68 = some (0, false)
  c121o : ∀ (x0 : (Int × (List (Int × Int)))) (x1 : (List Int)) (x2 : Int) r, s_l5Later_o F x0 x1 x2 = some r → D 1000000121 [Enc.enc x0, Enc.enc x1, Enc.enc x2] = some (encO .sh (r : NL Int))
  g121o : σ 1000000121 = some (1, false)
abbrev R92 (r : (List Int)) : (Nat → V) → Prop := RR Try.prog [.tmp 2] 0 false (Enc.enc (r : (List Int)))
section
variable {D : Den} {σ : Sig} {F : Nat} {r : (List Int)}
def s_l5Best_j1 (F : Nat) (g_1 : (Int × (List (Int × Int)))) (r_2 : (List Int)) (out_45 : (List Int)) (code_46 : Int) (x_102 : Int) (c1 : (List Int) → Int → Option (List Int)) (c4 : Int → Option (List Int)) (t41_122 : Bool) : Option (List Int) :=
  bif t41_122 then
    c4 (w64 (x_102 + 1))
  else
    (appL out_45 [x_102]).bind fun ap_123 =>
    (shlI .i64 1 x_102).bind fun q_124 =>
    c1 ap_123 (w64 (code_46 + q_124))
theorem t_f92_j1 (H : H92 D σ F) (g_1 : (Int × (List (Int × Int)))) (r_2 : (List Int)) (out_45 : (List Int)) (code_46 : Int) (x_102 : Int) (c1 : (List Int) → Int → Option (List Int)) (Hc1 : ∀ (out_45 : (List Int)) (code_46 : Int) (s : Nat → V), Facts [(1, (.ref (.bx 1) 0 [] (.agg [(.int .i64 g_1.1), (Enc.enc (g_1.2 : List (Int × Int)))]))), (2, (.sl .nl (Enc.shp Int) 0 [])), (3, (Enc.enc (r_2 : List Int))), (4, (encO (.at 4 []) (.of (out_45 : List Int)))), (5, (.int .i64 code_46))] s → c1 out_45 code_46 = some r → Run D σ (R92 r) (.run A92_1 [.lp A92_1, .bk 0, .sq A92_10]) s) (c4 : Int → Option (List Int)) (Hc4 : ∀ (x_102 : Int) (s : Nat → V), Facts [(1, (.ref (.bx 1) 0 [] (.agg [(.int .i64 g_1.1), (Enc.enc (g_1.2 : List (Int × Int)))]))), (2, (.sl .nl (Enc.shp Int) 0 [])), (3, (Enc.enc (r_2 : List Int))), (4, (encO (.at 4 []) (.of (out_45 : List Int)))), (5, (.int .i64 code_46)), (6, (.int .i64 x_102))] s → c4 x_102 = some r → Run D σ (R92 r) (.run A92_5 [.lp A92_5, .bk 2, .sq A92_8, .bk 1, .lp A92_1, .bk 0, .sq A92_10]) s) (t41_122 : Bool) (s : Nat → V) (hs : Facts [(1, (.ref (.bx 1) 0 [] (.agg [(.int .i64 g_1.1), (Enc.enc (g_1.2 : List (Int × Int)))]))), (2, (.sl .nl (Enc.shp Int) 0 [])), (3, (Enc.enc (r_2 : List Int))), (4, (encO (.at 4 []) (.of (out_45 : List Int)))), (5, (.int .i64 code_46)), (6, (.int .i64 x_102)), (41, (.bool t41_122))] s) (h : s_l5Best_j1 F g_1 r_2 out_45 code_46 x_102 c1 c4 t41_122 = some r) : Run D σ (R92 r) (.nrm [.sq A92_6, .sq A92_7, .lp A92_5, .bk 2, .sq A92_8, .bk 1, .lp A92_1, .bk 0, .sq A92_10]) s := by
  unfold s_l5Best_j1 at h
  obtain ⟨h1, h2, h3, h4, h5, h6, h41⟩ := hs
  refine .nsq ?_
  refine run_cond (t := t41_122) h41 h (fun h => ?_) (fun h => ?_)
  · refine .skip ?_
    refine .nsq ?_
    refine .block ?_
    refine run_reg ?_
    refine e_end ?_
    refine g_v1 (t := 6) (u := (.int .i64 x_102)) (.int .i64 x_102) h6 rfl rfl ?_
    refine g_v1 (t := 42) (u := (.int .i64 x_102)) (.int .i64 (w64 (x_102 + 1))) rfl rfl rfl ?_
    refine g_v1 (t := 43) (u := (.int .i64 (w64 (x_102 + 1)))) (.int .i64 (w64 (x_102 + 1))) rfl rfl rfl ?_
    refine g_end ?_
    refine e_end ?_
    refine renew [(1, (.ref (.bx 1) 0 [] (.agg [(.int .i64 g_1.1), (Enc.enc (g_1.2 : List (Int × Int)))]))), (2, (.sl .nl (Enc.shp Int) 0 [])), (3, (Enc.enc (r_2 : List Int))), (4, (encO (.at 4 []) (.of (out_45 : List Int)))), (5, (.int .i64 code_46)), (6, (.int .i64 (w64 (x_102 + 1))))] ⟨h1, h2, h3, h4, h5, rfl⟩ ?_
    rintro s ⟨h1, h2, h3, h4, h5, h6⟩
    refine .nbk ?_
    refine .nlp ?_
    exact Hc4 (w64 (x_102 + 1)) _ ⟨h1, h2, h3, h4, h5, h6⟩ h
  · refine .exit ?_
    refine .esq ?_
    refine .elp ?_
    refine .ebk ?_
    refine .nsq ?_
    refine .seq ?_
    refine run_reg ?_
    refine e_clr ?_
    refine e_end ?_
    refine g_v1 (t := 4) (u := (encO (.at 4 []) (.of (out_45 : List Int)))) (encO (.at 4 []) (.of (out_45 : List Int))) (keep_clear (s := s) (pk := [46, 47]) h4 rfl (map_encO (r := 4) (p := []) rfl rfl)) rfl rfl ?_
    refine g_v1 (t := 6) (u := (.int .i64 x_102)) (.int .i64 x_102) (keep_clear (s := s) (pk := [46, 47]) h6 rfl rfl) rfl rfl ?_
    refine g_litL [(45, (.int .i64 x_102))] [Enc.enc (x_102 : Int)] rfl rfl rfl (gone_clear (s := s) (pk := [46, 47]) (t := 46) rfl) ?_
    obtain ⟨ap_123, E_ap_123, h⟩ := bind_some h
    refine g_app (q := 4) (p := []) (o := (.of (out_45 : List Int))) (ys := ([x_102] : List Int)) (t2 := (.at 46 [])) (lo2 := 0) rfl rfl rfl (gone_clear (s := s) (pk := [46, 47]) (t := 47) rfl) (appN_L (o := (.of (out_45 : List Int))) E_ap_123 trivial) (fun s_20 ha_20 => ?_)
    refine g_v1 (t := 47) (u := (encO (.at 47 []) (.of (ap_123 : List Int)))) (encO (.at 47 []) (.of (ap_123 : List Int))) rfl rfl rfl ?_
    refine g_end ?_
    refine e_home (r := 47) (x := 4) (v := (encO (.at 47 []) (.of (ap_123 : List Int)))) (by exact rfl) rfl (fun s_21 hg_21 => ?_)
    refine e_end ?_
    refine renew [(1, (.ref (.bx 1) 0 [] (.agg [(.int .i64 g_1.1), (Enc.enc (g_1.2 : List (Int × Int)))]))), (2, (.sl .nl (Enc.shp Int) 0 [])), (3, (Enc.enc (r_2 : List Int))), (4, (encO (.at 4 []) (.of (ap_123 : List Int)))), (5, (.int .i64 code_46)), (6, (.int .i64 x_102))] ⟨(hg_21 1 (.ref (.bx 1) 0 [] (.agg [(.int .i64 g_1.1), (Enc.enc (g_1.2 : List (Int × Int)))])) (.ref (.bx 1) 0 [] (.agg [(.int .i64 g_1.1), (Enc.enc (g_1.2 : List (Int × Int)))])) (show s_20 1 = (.ref (.bx 1) 0 [] (.agg [(.int .i64 g_1.1), (Enc.enc (g_1.2 : List (Int × Int)))])) from keep_app ha_20 (keep_clear (s := s) (pk := [46, 47]) h1 rfl (map_bx rfl (map_agg (maps_cons rfl (maps_cons (Enc.map_enc _ (g_1.2 : List (Int × Int))) maps_nil))))) (map_bx rfl (map_agg (maps_cons rfl (maps_cons (Enc.map_enc _ (g_1.2 : List (Int × Int))) maps_nil))))) (map_bx rfl (map_agg (maps_cons rfl (maps_cons (Enc.map_enc _ (g_1.2 : List (Int × Int))) maps_nil))))), (hg_21 2 (.sl .nl (Enc.shp Int) 0 []) (.sl .nl (Enc.shp Int) 0 []) (show s_20 2 = (.sl .nl (Enc.shp Int) 0 []) from keep_app ha_20 (keep_clear (s := s) (pk := [46, 47]) h2 rfl rfl) rfl) rfl), (hg_21 3 (Enc.enc (r_2 : List Int)) (Enc.enc (r_2 : List Int)) (show s_20 3 = (Enc.enc (r_2 : List Int)) from keep_app ha_20 (keep_clear (s := s) (pk := [46, 47]) h3 rfl (Enc.map_enc _ (r_2 : List Int))) (Enc.map_enc _ (r_2 : List Int))) (Enc.map_enc _ (r_2 : List Int))), (hg_21 4 (encO (.at 47 []) (.of (ap_123 : List Int))) (encO (.at 4 []) (.of (ap_123 : List Int))) rfl (map_encO (r := 47) (p := []) rfl rfl)), (hg_21 5 (.int .i64 code_46) (.int .i64 code_46) (show s_20 5 = (.int .i64 code_46) from keep_app ha_20 (keep_clear (s := s) (pk := [46, 47]) h5 rfl rfl) rfl) rfl), (hg_21 6 (.int .i64 x_102) (.int .i64 x_102) (show s_20 6 = (.int .i64 x_102) from keep_app ha_20 (keep_clear (s := s) (pk := [46, 47]) h6 rfl rfl) rfl) rfl)⟩ ?_
    rintro s ⟨h1, h2, h3, h4, h5, h6⟩
    refine .nsq ?_
    refine run_reg ?_
    refine e_end ?_
    refine g_v1 (t := 5) (u := (.int .i64 code_46)) (.int .i64 code_46) h5 rfl rfl ?_
    refine g_v1 (t := 6) (u := (.int .i64 x_102)) (.int .i64 x_102) h6 rfl rfl ?_
    obtain ⟨q_124, E_q_124, h⟩ := bind_some h
    refine g_v (.int .i64 q_124) (ev_shl rfl rfl E_q_124) ?_
    refine g_v2 (t1 := 48) (t2 := 50) (u1 := (.int .i64 code_46)) (u2 := (.int .i64 q_124)) (.int .i64 (w64 (code_46 + q_124))) rfl rfl rfl rfl ?_
    refine g_v1 (t := 51) (u := (.int .i64 (w64 (code_46 + q_124)))) (.int .i64 (w64 (code_46 + q_124))) rfl rfl rfl ?_
    refine g_end ?_
    refine e_end ?_
    refine renew [(1, (.ref (.bx 1) 0 [] (.agg [(.int .i64 g_1.1), (Enc.enc (g_1.2 : List (Int × Int)))]))), (2, (.sl .nl (Enc.shp Int) 0 [])), (3, (Enc.enc (r_2 : List Int))), (4, (encO (.at 4 []) (.of (ap_123 : List Int)))), (5, (.int .i64 (w64 (code_46 + q_124))))] ⟨h1, h2, h3, h4, rfl⟩ ?_
    rintro s ⟨h1, h2, h3, h4, h5⟩
    refine .nbk ?_
    refine .nlp ?_
    exact Hc1 ap_123 (w64 (code_46 + q_124)) _ ⟨h1, h2, h3, h4, h5⟩ h
def s_l5Best_l1 (F : Nat) (g_1 : (Int × (List (Int × Int)))) (r_2 : (List Int)) (out_45 : (List Int)) (code_46 : Int) (c1 : (List Int) → Int → Option (List Int)) : Nat → Int → Option (List Int)
  | 0, _ => none
  | k + 1, x_102 =>
    (s_l1Has F out_45 x_102).bind fun r_125 =>
    bif r_125 then
      s_l5Best_j1 F g_1 r_2 out_45 code_46 x_102 c1 (s_l5Best_l1 F g_1 r_2 out_45 code_46 c1 k) true
    else
      (s_l5Later_o F g_1 out_45 x_102).bind fun r_126 =>
      (idx r_2 0).bind fun e_127 =>
      bif decide ((r_126.list.length : Int) > e_127) then
        s_l5Best_j1 F g_1 r_2 out_45 code_46 x_102 c1 (s_l5Best_l1 F g_1 r_2 out_45 code_46 c1 k) true
      else
        (shlI .i64 1 x_102).bind fun q_128 =>
        (idx r_2 (w64 (code_46 + q_128))).bind fun e_129 =>
        (idx r_2 0).bind fun e_130 =>
        s_l5Best_j1 F g_1 r_2 out_45 code_46 x_102 c1 (s_l5Best_l1 F g_1 r_2 out_45 code_46 c1 k) (decide (e_129 > e_130))
theorem t_f92_l1 (H : H92 D σ F) (g_1 : (Int × (List (Int × Int)))) (r_2 : (List Int)) (out_45 : (List Int)) (code_46 : Int) (c1 : (List Int) → Int → Option (List Int)) (Hc1 : ∀ (out_45 : (List Int)) (code_46 : Int) (s : Nat → V), Facts [(1, (.ref (.bx 1) 0 [] (.agg [(.int .i64 g_1.1), (Enc.enc (g_1.2 : List (Int × Int)))]))), (2, (.sl .nl (Enc.shp Int) 0 [])), (3, (Enc.enc (r_2 : List Int))), (4, (encO (.at 4 []) (.of (out_45 : List Int)))), (5, (.int .i64 code_46))] s → c1 out_45 code_46 = some r → Run D σ (R92 r) (.run A92_1 [.lp A92_1, .bk 0, .sq A92_10]) s) : ∀ (k : Nat) (x_102 : Int) (s : Nat → V), Facts [(1, (.ref (.bx 1) 0 [] (.agg [(.int .i64 g_1.1), (Enc.enc (g_1.2 : List (Int × Int)))]))), (2, (.sl .nl (Enc.shp Int) 0 [])), (3, (Enc.enc (r_2 : List Int))), (4, (encO (.at 4 []) (.of (out_45 : List Int)))), (5, (.int .i64 code_46)), (6, (.int .i64 x_102))] s → s_l5Best_l1 F g_1 r_2 out_45 code_46 c1 k x_102 = some r → Run D σ (R92 r) (.run A92_5 [.lp A92_5, .bk 2, .sq A92_8, .bk 1, .lp A92_1, .bk 0, .sq A92_10]) s := by
  intro k
  induction k with
  | zero => intro x_102 s _ h; exact nomatch (h : (none : Option _) = some r)
  | succ k ih =>
    intro x_102 s hs h
    rw [s_l5Best_l1] at h
    obtain ⟨h1, h2, h3, h4, h5, h6⟩ := hs
    refine .seq ?_
    refine .seq ?_
    refine run_reg ?_
    refine e_clr ?_
    refine e_end ?_
    refine g_v1 (t := 4) (u := (encO (.at 4 []) (.of (out_45 : List Int)))) (encO (.at 4 []) (.of (out_45 : List Int))) (keep_clear (s := s) (pk := [22]) h4 rfl (map_encO (r := 4) (p := []) rfl rfl)) rfl rfl ?_
    refine g_v1 (t := 6) (u := (.int .i64 x_102)) (.int .i64 x_102) (keep_clear (s := s) (pk := [22]) h6 rfl rfl) rfl rfl ?_
    obtain ⟨r_125, E_r_125, h⟩ := bind_some h
    refine g_call (m := 0) (al := false) (r := (Enc.enc (r_125 : Bool))) [Enc.enc (out_45 : (List Int)), Enc.enc (x_102 : Int)] (ta_cons (v := (encO (.at 4 []) (.of (out_45 : List Int)))) rfl rfl (erase_encO (o := .of out_45)) (ta_cons (v := (.int .i64 x_102)) rfl rfl rfl ta_nil)) (H.c68 _ _ _ E_r_125) H.g68 rfl rfl rfl rfl ?_
    refine g_v1 (t := 17) (u := (.bool r_125)) (.bool r_125) rfl rfl rfl ?_
    refine split_on (c := r_125) h (fun hg4 h => ?_) (fun hg4 h => ?_)
    · refine g_no (Eq.trans (b := .bool r_125) rfl (congrArg V.bool hg4)) ?_
      refine g_no (Eq.trans (b := .bool r_125) rfl (congrArg V.bool hg4)) ?_
      refine g_no (Eq.trans (b := .bool r_125) rfl (congrArg V.bool hg4)) ?_
      refine g_no (Eq.trans (b := .bool r_125) rfl (congrArg V.bool hg4)) ?_
      refine g_no (Eq.trans (b := .bool r_125) rfl (congrArg V.bool hg4)) ?_
      refine g_no (Eq.trans (b := .bool r_125) rfl (congrArg V.bool hg4)) ?_
      refine g_no (Eq.trans (b := .bool r_125) rfl (congrArg V.bool hg4)) ?_
      refine g_no (Eq.trans (b := .bool r_125) rfl (congrArg V.bool hg4)) ?_
      refine g_no (Eq.trans (b := .bool r_125) rfl (congrArg V.bool hg4)) ?_
      refine g_v2 (t1 := 18) (t2 := 27) (u1 := (.bool true)) (u2 := (.tup [])) (.bool true) (Eq.trans (b := .bool r_125) rfl (congrArg V.bool hg4)) rfl rfl rfl ?_
      refine g_v1 (t := 28) (u := (.bool true)) (.bool true) rfl rfl rfl ?_
      refine g_no rfl ?_
      refine g_no rfl ?_
      refine g_no rfl ?_
      refine g_no rfl ?_
      refine g_no rfl ?_
      refine g_no rfl ?_
      refine g_no rfl ?_
      refine g_no rfl ?_
      refine g_no rfl ?_
      refine g_no rfl ?_
      refine g_no rfl ?_
      refine g_v2 (t1 := 29) (t2 := 40) (u1 := (.bool true)) (u2 := (.tup [])) (.bool true) rfl rfl rfl rfl ?_
      refine g_end ?_
      refine e_end ?_
      refine renew [(1, (.ref (.bx 1) 0 [] (.agg [(.int .i64 g_1.1), (Enc.enc (g_1.2 : List (Int × Int)))]))), (2, (.sl .nl (Enc.shp Int) 0 [])), (3, (Enc.enc (r_2 : List Int))), (4, (encO (.at 4 []) (.of (out_45 : List Int)))), (5, (.int .i64 code_46)), (6, (.int .i64 x_102)), (41, (.bool true))] ⟨(keep_clear (s := s) (pk := [22]) h1 rfl (map_bx rfl (map_agg (maps_cons rfl (maps_cons (Enc.map_enc _ (g_1.2 : List (Int × Int))) maps_nil))))), (keep_clear (s := s) (pk := [22]) h2 rfl rfl), (keep_clear (s := s) (pk := [22]) h3 rfl (Enc.map_enc _ (r_2 : List Int))), (keep_clear (s := s) (pk := [22]) h4 rfl (map_encO (r := 4) (p := []) rfl rfl)), (keep_clear (s := s) (pk := [22]) h5 rfl rfl), (keep_clear (s := s) (pk := [22]) h6 rfl rfl), rfl⟩ ?_
      rintro s ⟨h1, h2, h3, h4, h5, h6, h41⟩
      exact t_f92_j1 H g_1 r_2 out_45 code_46 x_102 c1 Hc1 (s_l5Best_l1 F g_1 r_2 out_45 code_46 c1 k) ih true _ ⟨h1, h2, h3, h4, h5, h6, h41⟩ h
    · refine g_yes (Eq.trans (b := .bool r_125) rfl (congrArg V.bool hg4)) (g_v1 (t := 1) (u := (.ref (.bx 1) 0 [] (.agg [(.int .i64 g_1.1), (Enc.enc (g_1.2 : List (Int × Int)))]))) (.agg [(.int .i64 g_1.1), (Enc.enc (g_1.2 : List (Int × Int)))]) (keep_clear (s := s) (pk := [22]) h1 rfl (map_bx rfl (map_agg (maps_cons rfl (maps_cons (Enc.map_enc _ (g_1.2 : List (Int × Int))) maps_nil))))) rfl rfl ?_)
      refine g_yes (Eq.trans (b := .bool r_125) rfl (congrArg V.bool hg4)) (g_v1 (t := 4) (u := (encO (.at 4 []) (.of (out_45 : List Int)))) (encO (.at 4 []) (.of (out_45 : List Int))) (keep_clear (s := s) (pk := [22]) h4 rfl (map_encO (r := 4) (p := []) rfl rfl)) rfl rfl ?_)
      refine g_yes (Eq.trans (b := .bool r_125) rfl (congrArg V.bool hg4)) (g_v1 (t := 6) (u := (.int .i64 x_102)) (.int .i64 x_102) (keep_clear (s := s) (pk := [22]) h6 rfl rfl) rfl rfl ?_)
      obtain ⟨r_126, E_r_126, h⟩ := bind_some h
      refine g_yes (Eq.trans (b := .bool r_125) rfl (congrArg V.bool hg4)) (g_callO (m := 1) (al := false) (r := (encO .sh (r_126 : NL Int))) (v := (encO (.at 22 []) (r_126 : NL Int))) (kk := 1000000121) [Enc.enc (g_1 : (Int × (List (Int × Int)))), Enc.enc (out_45 : (List Int)), Enc.enc (x_102 : Int)] (ta_cons (v := (.agg [(.int .i64 g_1.1), (Enc.enc (g_1.2 : List (Int × Int)))])) rfl rfl (Enc.erase_enc (g_1 : (Int × (List (Int × Int))))) (ta_cons (v := (encO (.at 4 []) (.of (out_45 : List Int)))) rfl rfl (erase_encO (o := .of out_45)) (ta_cons (v := (.int .i64 x_102)) rfl rfl rfl ta_nil))) (H.c121o _ _ _ _ E_r_126) H.g121o rfl toks_encS tag_encO ok_encP (gone_clear (s := s) (pk := [22]) (t := 22) rfl) ?_)
      refine g_yes (Eq.trans (b := .bool r_125) rfl (congrArg V.bool hg4)) (g_v (.int .i64 (r_126.list.length : Int)) (ev_lenO (o := r_126) rfl) ?_)
      refine g_yes (Eq.trans (b := .bool r_125) rfl (congrArg V.bool hg4)) (g_v1 (t := 3) (u := (Enc.enc (r_2 : List Int))) (Enc.enc (r_2 : List Int)) (keep_clear (s := s) (pk := [22]) h3 rfl (Enc.map_enc _ (r_2 : List Int))) rfl rfl ?_)
      obtain ⟨e_127, E_e_127, h⟩ := bind_some h
      refine g_yes (Eq.trans (b := .bool r_125) rfl (congrArg V.bool hg4)) (g_v (.ref .sh 0 [] (.int .i64 e_127)) (ev_idx (t := .sh) (lo := 0) (xs := r_2) rfl rfl E_e_127 rfl rfl) ?_)
      refine g_yes (Eq.trans (b := .bool r_125) rfl (congrArg V.bool hg4)) (g_v1 (t := 25) (u := (.ref .sh 0 [] (.int .i64 e_127))) (.int .i64 e_127) rfl rfl rfl ?_)
      refine g_yes (Eq.trans (b := .bool r_125) rfl (congrArg V.bool hg4)) (g_v2 (t1 := 23) (t2 := 26) (u1 := (.int .i64 (r_126.list.length : Int))) (u2 := (.int .i64 e_127)) (.bool (decide ((r_126.list.length : Int) > e_127))) rfl rfl rfl rfl ?_)
      refine g_v2 (t1 := 18) (t2 := 27) (u1 := (.bool false)) (u2 := (.bool (decide ((r_126.list.length : Int) > e_127)))) (.bool (decide ((r_126.list.length : Int) > e_127))) (Eq.trans (b := .bool r_125) rfl (congrArg V.bool hg4)) rfl rfl rfl ?_
      refine g_v1 (t := 28) (u := (.bool (decide ((r_126.list.length : Int) > e_127)))) (.bool (decide ((r_126.list.length : Int) > e_127))) rfl rfl rfl ?_
      refine split_on (c := decide ((r_126.list.length : Int) > e_127)) h (fun hg15 h => ?_) (fun hg15 h => ?_)
      · refine g_no (Eq.trans (b := .bool (decide ((r_126.list.length : Int) > e_127))) rfl (congrArg V.bool hg15)) ?_
        refine g_no (Eq.trans (b := .bool (decide ((r_126.list.length : Int) > e_127))) rfl (congrArg V.bool hg15)) ?_
        refine g_no (Eq.trans (b := .bool (decide ((r_126.list.length : Int) > e_127))) rfl (congrArg V.bool hg15)) ?_
        refine g_no (Eq.trans (b := .bool (decide ((r_126.list.length : Int) > e_127))) rfl (congrArg V.bool hg15)) ?_
        refine g_no (Eq.trans (b := .bool (decide ((r_126.list.length : Int) > e_127))) rfl (congrArg V.bool hg15)) ?_
        refine g_no (Eq.trans (b := .bool (decide ((r_126.list.length : Int) > e_127))) rfl (congrArg V.bool hg15)) ?_
        refine g_no (Eq.trans (b := .bool (decide ((r_126.list.length : Int) > e_127))) rfl (congrArg V.bool hg15)) ?_
        refine g_no (Eq.trans (b := .bool (decide ((r_126.list.length : Int) > e_127))) rfl (congrArg V.bool hg15)) ?_
        refine g_no (Eq.trans (b := .bool (decide ((r_126.list.length : Int) > e_127))) rfl (congrArg V.bool hg15)) ?_
        refine g_no (Eq.trans (b := .bool (decide ((r_126.list.length : Int) > e_127))) rfl (congrArg V.bool hg15)) ?_
        refine g_no (Eq.trans (b := .bool (decide ((r_126.list.length : Int) > e_127))) rfl (congrArg V.bool hg15)) ?_
        refine g_v2 (t1 := 29) (t2 := 40) (u1 := (.bool true)) (u2 := (.tup [])) (.bool true) (Eq.trans (b := .bool (decide ((r_126.list.length : Int) > e_127))) rfl (congrArg V.bool hg15)) rfl rfl rfl ?_
        refine g_end ?_
        refine e_end ?_
        refine renew [(1, (.ref (.bx 1) 0 [] (.agg [(.int .i64 g_1.1), (Enc.enc (g_1.2 : List (Int × Int)))]))), (2, (.sl .nl (Enc.shp Int) 0 [])), (3, (Enc.enc (r_2 : List Int))), (4, (encO (.at 4 []) (.of (out_45 : List Int)))), (5, (.int .i64 code_46)), (6, (.int .i64 x_102)), (41, (.bool true))] ⟨(keep_clear (s := s) (pk := [22]) h1 rfl (map_bx rfl (map_agg (maps_cons rfl (maps_cons (Enc.map_enc _ (g_1.2 : List (Int × Int))) maps_nil))))), (keep_clear (s := s) (pk := [22]) h2 rfl rfl), (keep_clear (s := s) (pk := [22]) h3 rfl (Enc.map_enc _ (r_2 : List Int))), (keep_clear (s := s) (pk := [22]) h4 rfl (map_encO (r := 4) (p := []) rfl rfl)), (keep_clear (s := s) (pk := [22]) h5 rfl rfl), (keep_clear (s := s) (pk := [22]) h6 rfl rfl), rfl⟩ ?_
        rintro s ⟨h1, h2, h3, h4, h5, h6, h41⟩
        exact t_f92_j1 H g_1 r_2 out_45 code_46 x_102 c1 Hc1 (s_l5Best_l1 F g_1 r_2 out_45 code_46 c1 k) ih true _ ⟨h1, h2, h3, h4, h5, h6, h41⟩ h
      · refine g_yes (Eq.trans (b := .bool (decide ((r_126.list.length : Int) > e_127))) rfl (congrArg V.bool hg15)) (g_v1 (t := 3) (u := (Enc.enc (r_2 : List Int))) (Enc.enc (r_2 : List Int)) (keep_clear (s := s) (pk := [22]) h3 rfl (Enc.map_enc _ (r_2 : List Int))) rfl rfl ?_)
        refine g_yes (Eq.trans (b := .bool (decide ((r_126.list.length : Int) > e_127))) rfl (congrArg V.bool hg15)) (g_v1 (t := 5) (u := (.int .i64 code_46)) (.int .i64 code_46) (keep_clear (s := s) (pk := [22]) h5 rfl rfl) rfl rfl ?_)
        refine g_yes (Eq.trans (b := .bool (decide ((r_126.list.length : Int) > e_127))) rfl (congrArg V.bool hg15)) (g_v1 (t := 6) (u := (.int .i64 x_102)) (.int .i64 x_102) (keep_clear (s := s) (pk := [22]) h6 rfl rfl) rfl rfl ?_)
        obtain ⟨q_128, E_q_128, h⟩ := bind_some h
        refine g_yes (Eq.trans (b := .bool (decide ((r_126.list.length : Int) > e_127))) rfl (congrArg V.bool hg15)) (g_v (.int .i64 q_128) (ev_shl rfl rfl E_q_128) ?_)
        refine g_yes (Eq.trans (b := .bool (decide ((r_126.list.length : Int) > e_127))) rfl (congrArg V.bool hg15)) (g_v2 (t1 := 31) (t2 := 33) (u1 := (.int .i64 code_46)) (u2 := (.int .i64 q_128)) (.int .i64 (w64 (code_46 + q_128))) rfl rfl rfl rfl ?_)
        obtain ⟨e_129, E_e_129, h⟩ := bind_some h
        refine g_yes (Eq.trans (b := .bool (decide ((r_126.list.length : Int) > e_127))) rfl (congrArg V.bool hg15)) (g_v (.ref .sh 0 [] (.int .i64 e_129)) (ev_idx (t := .sh) (lo := 0) (xs := r_2) rfl rfl E_e_129 rfl rfl) ?_)
        refine g_yes (Eq.trans (b := .bool (decide ((r_126.list.length : Int) > e_127))) rfl (congrArg V.bool hg15)) (g_v1 (t := 35) (u := (.ref .sh 0 [] (.int .i64 e_129))) (.int .i64 e_129) rfl rfl rfl ?_)
        refine g_yes (Eq.trans (b := .bool (decide ((r_126.list.length : Int) > e_127))) rfl (congrArg V.bool hg15)) (g_v1 (t := 3) (u := (Enc.enc (r_2 : List Int))) (Enc.enc (r_2 : List Int)) (keep_clear (s := s) (pk := [22]) h3 rfl (Enc.map_enc _ (r_2 : List Int))) rfl rfl ?_)
        obtain ⟨e_130, E_e_130, h⟩ := bind_some h
        refine g_yes (Eq.trans (b := .bool (decide ((r_126.list.length : Int) > e_127))) rfl (congrArg V.bool hg15)) (g_v (.ref .sh 0 [] (.int .i64 e_130)) (ev_idx (t := .sh) (lo := 0) (xs := r_2) rfl rfl E_e_130 rfl rfl) ?_)
        refine g_yes (Eq.trans (b := .bool (decide ((r_126.list.length : Int) > e_127))) rfl (congrArg V.bool hg15)) (g_v1 (t := 38) (u := (.ref .sh 0 [] (.int .i64 e_130))) (.int .i64 e_130) rfl rfl rfl ?_)
        refine g_yes (Eq.trans (b := .bool (decide ((r_126.list.length : Int) > e_127))) rfl (congrArg V.bool hg15)) (g_v2 (t1 := 36) (t2 := 39) (u1 := (.int .i64 e_129)) (u2 := (.int .i64 e_130)) (.bool (decide (e_129 > e_130))) rfl rfl rfl rfl ?_)
        refine g_v2 (t1 := 29) (t2 := 40) (u1 := (.bool false)) (u2 := (.bool (decide (e_129 > e_130)))) (.bool (decide (e_129 > e_130))) (Eq.trans (b := .bool (decide ((r_126.list.length : Int) > e_127))) rfl (congrArg V.bool hg15)) rfl rfl rfl ?_
        refine g_end ?_
        refine e_end ?_
        refine renew [(1, (.ref (.bx 1) 0 [] (.agg [(.int .i64 g_1.1), (Enc.enc (g_1.2 : List (Int × Int)))]))), (2, (.sl .nl (Enc.shp Int) 0 [])), (3, (Enc.enc (r_2 : List Int))), (4, (encO (.at 4 []) (.of (out_45 : List Int)))), (5, (.int .i64 code_46)), (6, (.int .i64 x_102)), (41, (.bool (decide (e_129 > e_130))))] ⟨(keep_clear (s := s) (pk := [22]) h1 rfl (map_bx rfl (map_agg (maps_cons rfl (maps_cons (Enc.map_enc _ (g_1.2 : List (Int × Int))) maps_nil))))), (keep_clear (s := s) (pk := [22]) h2 rfl rfl), (keep_clear (s := s) (pk := [22]) h3 rfl (Enc.map_enc _ (r_2 : List Int))), (keep_clear (s := s) (pk := [22]) h4 rfl (map_encO (r := 4) (p := []) rfl rfl)), (keep_clear (s := s) (pk := [22]) h5 rfl rfl), (keep_clear (s := s) (pk := [22]) h6 rfl rfl), rfl⟩ ?_
        rintro s ⟨h1, h2, h3, h4, h5, h6, h41⟩
        exact t_f92_j1 H g_1 r_2 out_45 code_46 x_102 c1 Hc1 (s_l5Best_l1 F g_1 r_2 out_45 code_46 c1 k) ih (decide (e_129 > e_130)) _ ⟨h1, h2, h3, h4, h5, h6, h41⟩ h
def s_l5Best_l2 (F : Nat) (g_1 : (Int × (List (Int × Int)))) (r_2 : (List Int))  : Nat → (List Int) → Int → Option (List Int)
  | 0, _, _ => none
  | k + 1, out_45, code_46 =>
    bif decide ((out_45.length : Int) < g_1.1) then
      s_l5Best_l1 F g_1 r_2 out_45 code_46 (s_l5Best_l2 F g_1 r_2 k) F 0
    else
      some out_45
theorem t_f92_l2 (H : H92 D σ F) (g_1 : (Int × (List (Int × Int)))) (r_2 : (List Int))  : ∀ (k : Nat) (out_45 : (List Int)) (code_46 : Int) (s : Nat → V), Facts [(1, (.ref (.bx 1) 0 [] (.agg [(.int .i64 g_1.1), (Enc.enc (g_1.2 : List (Int × Int)))]))), (2, (.sl .nl (Enc.shp Int) 0 [])), (3, (Enc.enc (r_2 : List Int))), (4, (encO (.at 4 []) (.of (out_45 : List Int)))), (5, (.int .i64 code_46))] s → s_l5Best_l2 F g_1 r_2 k out_45 code_46 = some r → Run D σ (R92 r) (.run A92_1 [.lp A92_1, .bk 0, .sq A92_10]) s := by
  intro k
  induction k with
  | zero => intro out_45 code_46 s _ h; exact nomatch (h : (none : Option _) = some r)
  | succ k ih =>
    intro out_45 code_46 s hs h
    rw [s_l5Best_l2] at h
    obtain ⟨h1, h2, h3, h4, h5⟩ := hs
    refine .seq ?_
    refine .seq ?_
    refine run_reg ?_
    refine e_end ?_
    refine g_v1 (t := 4) (u := (encO (.at 4 []) (.of (out_45 : List Int)))) (encO (.at 4 []) (.of (out_45 : List Int))) h4 rfl rfl ?_
    refine g_v (.int .i64 (out_45.length : Int)) (ev_lenO (o := .of out_45) rfl) ?_
    refine g_v1 (t := 1) (u := (.ref (.bx 1) 0 [] (.agg [(.int .i64 g_1.1), (Enc.enc (g_1.2 : List (Int × Int)))]))) (.ref (.bx 1) 0 [0] (.int .i64 g_1.1)) h1 rfl rfl ?_
    refine g_v1 (t := 12) (u := (.ref (.bx 1) 0 [0] (.int .i64 g_1.1))) (.int .i64 g_1.1) rfl rfl rfl ?_
    refine g_v2 (t1 := 11) (t2 := 13) (u1 := (.int .i64 (out_45.length : Int))) (u2 := (.int .i64 g_1.1)) (.bool (decide ((out_45.length : Int) < g_1.1))) rfl rfl rfl rfl ?_
    refine g_end ?_
    refine e_end ?_
    refine renew [(1, (.ref (.bx 1) 0 [] (.agg [(.int .i64 g_1.1), (Enc.enc (g_1.2 : List (Int × Int)))]))), (2, (.sl .nl (Enc.shp Int) 0 [])), (3, (Enc.enc (r_2 : List Int))), (4, (encO (.at 4 []) (.of (out_45 : List Int)))), (5, (.int .i64 code_46)), (14, (.bool (decide ((out_45.length : Int) < g_1.1))))] ⟨h1, h2, h3, h4, h5, rfl⟩ ?_
    rintro s ⟨h1, h2, h3, h4, h5, h14⟩
    refine .nsq ?_
    refine run_cond (t := decide ((out_45.length : Int) < g_1.1)) h14 h (fun h => ?_) (fun h => ?_)
    · refine .skip ?_
      refine .nsq ?_
      refine .block ?_
      refine .seq ?_
      refine run_reg ?_
      refine e_end ?_
      refine g_v0 (.int .i64 0) rfl rfl ?_
      refine g_end ?_
      refine e_end ?_
      refine renew [(1, (.ref (.bx 1) 0 [] (.agg [(.int .i64 g_1.1), (Enc.enc (g_1.2 : List (Int × Int)))]))), (2, (.sl .nl (Enc.shp Int) 0 [])), (3, (Enc.enc (r_2 : List Int))), (4, (encO (.at 4 []) (.of (out_45 : List Int)))), (5, (.int .i64 code_46)), (6, (.int .i64 0))] ⟨h1, h2, h3, h4, h5, rfl⟩ ?_
      rintro s ⟨h1, h2, h3, h4, h5, h6⟩
      refine .nsq ?_
      refine .seq ?_
      refine .block ?_
      refine .loop ?_
      exact t_f92_l1 H g_1 r_2 out_45 code_46 (s_l5Best_l2 F g_1 r_2 k) ih F 0 _ ⟨h1, h2, h3, h4, h5, h6⟩ h
    · refine .exit ?_
      refine .esq ?_
      refine .elp ?_
      refine .ebk ?_
      refine .nsq ?_
      refine .seq ?_
      refine run_reg ?_
      refine e_end ?_
      refine g_v1 (t := 4) (u := (encO (.at 4 []) (.of (out_45 : List Int)))) (encO (.at 4 []) (.of (out_45 : List Int))) h4 rfl rfl ?_
      refine g_v1 (t := 52) (u := (encO (.at 4 []) (.of (out_45 : List Int)))) (encO (.at 4 []) (.of (out_45 : List Int))) rfl rfl rfl ?_
      refine g_end ?_
      refine e_home (r := 4) (x := 2) (v := (encO (.at 4 []) (.of (out_45 : List Int)))) (by exact rfl) rfl (fun s_22 hg_22 => ?_)
      refine e_end ?_
      refine renew [(2, (encO (.at 2 []) (.of (out_45 : List Int))))] (hg_22 2 (encO (.at 4 []) (.of (out_45 : List Int))) (encO (.at 2 []) (.of (out_45 : List Int))) rfl (map_encO (r := 4) (p := []) rfl rfl)) ?_
      rintro s h2
      refine .nsq ?_
      refine .ret ?_
      have hr := Option.some.inj h
      subst hr
      exact rrA (res_tmp h2) (fin_retF (fin_own (o := .of out_45)) (mine_own rfl))
def s_l5Best (F : Nat) (g_1 : (Int × (List (Int × Int)))) : Option (List Int) :=
  (s_l5Rests F g_1).bind fun r_2 =>
  s_l5Best_l2 F g_1 r_2 F [] 0
theorem t92 (H : H92 D σ F) (g_1 : (Int × (List (Int × Int)))) (s : Nat → V) (hs : Facts [(0, (.agg [(.int .i64 g_1.1), (Enc.enc (g_1.2 : List (Int × Int)))]))] s) (h : s_l5Best F g_1 = some r) : Run D σ (R92 r) (.run A92 []) s := by
  unfold s_l5Best at h
  have h0 := hs
  refine .seq ?_
  refine run_reg ?_
  refine e_clr ?_
  refine e_end ?_
  refine g_box (.agg [(.int .i64 g_1.1), (Enc.enc (g_1.2 : List (Int × Int)))]) (rd_of (keep_clear (s := s) (pk := [1]) h0 rfl (map_agg (maps_cons rfl (maps_cons (Enc.map_enc _ (g_1.2 : List (Int × Int))) maps_nil)))) rfl) (gone_clear (s := s) (pk := [1]) (t := 1) rfl) rfl ?_
  refine g_v0 (.sl .nl (Enc.shp Int) 0 []) rfl rfl ?_
  refine g_end ?_
  refine e_end ?_
  refine renew [(1, (.ref (.bx 1) 0 [] (.agg [(.int .i64 g_1.1), (Enc.enc (g_1.2 : List (Int × Int)))]))), (2, (.sl .nl (Enc.shp Int) 0 []))] ⟨rfl, rfl⟩ ?_
  rintro s ⟨h1, h2⟩
  refine .nsq ?_
  refine .seq ?_
  refine run_reg ?_
  refine e_end ?_
  refine g_v1 (t := 1) (u := (.ref (.bx 1) 0 [] (.agg [(.int .i64 g_1.1), (Enc.enc (g_1.2 : List (Int × Int)))]))) (.agg [(.int .i64 g_1.1), (Enc.enc (g_1.2 : List (Int × Int)))]) h1 rfl rfl ?_
  obtain ⟨r_2, E_r_2, h⟩ := bind_some h
  refine g_call (m := 0) (al := false) (r := (Enc.enc (r_2 : (List Int)))) [Enc.enc (g_1 : (Int × (List (Int × Int))))] (ta_cons (v := (.agg [(.int .i64 g_1.1), (Enc.enc (g_1.2 : List (Int × Int)))])) rfl rfl (Enc.erase_enc (g_1 : (Int × (List (Int × Int))))) ta_nil) (H.c120 _ _ E_r_2) H.g120 rfl rfl rfl rfl ?_
  refine g_v1 (t := 8) (u := (Enc.enc (r_2 : List Int))) (Enc.enc (r_2 : List Int)) rfl rfl rfl ?_
  refine g_end ?_
  refine e_end ?_
  refine renew [(1, (.ref (.bx 1) 0 [] (.agg [(.int .i64 g_1.1), (Enc.enc (g_1.2 : List (Int × Int)))]))), (2, (.sl .nl (Enc.shp Int) 0 [])), (3, (Enc.enc (r_2 : List Int)))] ⟨h1, h2, rfl⟩ ?_
  rintro s ⟨h1, h2, h3⟩
  refine .nsq ?_
  refine .seq ?_
  refine run_reg ?_
  refine e_clr ?_
  refine e_end ?_
  refine g_litL [] [] trivial rfl rfl (gone_clear (s := s) (pk := [9]) (t := 9) rfl) ?_
  refine g_v1 (t := 9) (u := (encO (.at 9 []) (.of ([] : List Int)))) (encO (.at 9 []) (.of ([] : List Int))) rfl rfl rfl ?_
  refine g_end ?_
  refine e_home (r := 9) (x := 4) (v := (encO (.at 9 []) (.of ([] : List Int)))) (by exact rfl) rfl (fun s_3 hg_3 => ?_)
  refine e_end ?_
  refine renew [(1, (.ref (.bx 1) 0 [] (.agg [(.int .i64 g_1.1), (Enc.enc (g_1.2 : List (Int × Int)))]))), (2, (.sl .nl (Enc.shp Int) 0 [])), (3, (Enc.enc (r_2 : List Int))), (4, (encO (.at 4 []) (.of ([] : List Int))))] ⟨(hg_3 1 (.ref (.bx 1) 0 [] (.agg [(.int .i64 g_1.1), (Enc.enc (g_1.2 : List (Int × Int)))])) (.ref (.bx 1) 0 [] (.agg [(.int .i64 g_1.1), (Enc.enc (g_1.2 : List (Int × Int)))])) (keep_clear (s := s) (pk := [9]) h1 rfl (map_bx rfl (map_agg (maps_cons rfl (maps_cons (Enc.map_enc _ (g_1.2 : List (Int × Int))) maps_nil))))) (map_bx rfl (map_agg (maps_cons rfl (maps_cons (Enc.map_enc _ (g_1.2 : List (Int × Int))) maps_nil))))), (hg_3 2 (.sl .nl (Enc.shp Int) 0 []) (.sl .nl (Enc.shp Int) 0 []) (keep_clear (s := s) (pk := [9]) h2 rfl rfl) rfl), (hg_3 3 (Enc.enc (r_2 : List Int)) (Enc.enc (r_2 : List Int)) (keep_clear (s := s) (pk := [9]) h3 rfl (Enc.map_enc _ (r_2 : List Int))) (Enc.map_enc _ (r_2 : List Int))), (hg_3 4 (encO (.at 9 []) (.of ([] : List Int))) (encO (.at 4 []) (.of ([] : List Int))) rfl (map_encO (r := 9) (p := []) rfl rfl))⟩ ?_
  rintro s ⟨h1, h2, h3, h4⟩
  refine .nsq ?_
  refine .seq ?_
  refine run_reg ?_
  refine e_end ?_
  refine g_v0 (.int .i64 0) rfl rfl ?_
  refine g_end ?_
  refine e_end ?_
  refine renew [(1, (.ref (.bx 1) 0 [] (.agg [(.int .i64 g_1.1), (Enc.enc (g_1.2 : List (Int × Int)))]))), (2, (.sl .nl (Enc.shp Int) 0 [])), (3, (Enc.enc (r_2 : List Int))), (4, (encO (.at 4 []) (.of ([] : List Int)))), (5, (.int .i64 0))] ⟨h1, h2, h3, h4, rfl⟩ ?_
  rintro s ⟨h1, h2, h3, h4, h5⟩
  refine .nsq ?_
  refine .seq ?_
  refine .block ?_
  refine .loop ?_
  exact t_f92_l2 H g_1 r_2 F [] 0 _ ⟨h1, h2, h3, h4, h5⟩ h
end
def e92 (F : Nat) : Ent := ⟨92, da (fun (x : ((Int × (List (Int × Int))) × Unit)) => s_l5Best F x.1) (fun (r : (List Int)) => (Enc.enc (r : (List Int)))), 0, false, selF []⟩
theorem p92 {F : Nat} {x0 : (Int × (List (Int × Int)))} {r : (List Int)} (h : s_l5Best F x0 = some r) : (e92 F).den [Enc.enc x0] = some (Enc.enc (r : (List Int))) := da_put (f := fun (x : ((Int × (List (Int × Int))) × Unit)) => s_l5Best F x.1) (t := fun (r : (List Int)) => (Enc.enc (r : (List Int)))) (x0, ()) h
theorem o92 {D : Den} {σ : Sig} {F : Nat} (hF : Fits2 Try.prog D σ) (H : H92 D σ F) : (e92 F).Ok Try.prog := by
  refine ok_of (f := 92) (show unk 92 = 92 from rfl) (fun args r h => ?_) ⟨Try.f92, Try.func92, rfl, rfl⟩
  obtain ⟨⟨x0, _⟩, y, rfl, hy, rfl⟩ := da_open h
  exact contract_run hF (by kernel_rfl) Try.func92 rfl c92 (show 1 ≤ Try.f92.ntmps by decide) (t92 H x0 _ rfl hy)
/- loop.example/g01109/spec.BestElimination -/
def A45_2 : AC := (.cond (.t 6) (.seq (.reg [.clr [7]] [(.mk (some 7) none false (.lit (.int .i64 (.ofNat 0)) 0 [])), (.mk (some 2) none false (.v (.mov (.t 7)))), (.mk (some 3) none false (.v (.mov (.k (.bool false)))))] [.home 7 2]) .ret) .skip)
def A45_3 : AC := (.seq (.reg [] [(.mk (some 8) none false (.v (.load (.ag [.s, .p]) (.t 1)))), (.mk (some 9) none false (.call (.k (.fn 92 [] [])) [(.t 8)])), (.mk (some 2) none false (.v (.mov (.t 9)))), (.mk (some 3) none false (.v (.mov (.k (.bool true)))))] []) .ret)
def A45_1 : AC := (.seq (.seq (.reg [] [(.mk (some 4) none false (.v (.load (.ag [.s, .p]) (.t 1)))), (.mk (some 5) none false (.call (.k (.fn 48 [] [])) [(.t 4)])), (.mk (some 6) none false (.v (.un .not (.t 5))))] []) A45_2) A45_3)
def A45 : AC := (.seq (.reg [.clr [1]] [(.mk (some 1) none false (.box (.t 0))), (.mk (some 2) none false (.v (.mov (.k (.sl .nl .s 0 []))))), (.mk (some 3) none false (.v (.mov (.k (.bool false)))))] []) A45_1)
def an45 : List An := [{ id := 0, pre := [.clr [1]], ep := [], lin := [], sp := [] }, { id := 2, pre := [.clr [7]], ep := [.home 7 2], lin := [], sp := [] }]
theorem c45 : cC Try.prog Try.f45.ntmps an45 (Try.f45.body.getD .skip) = some A45 := by kernel_rfl
structure H45 (D : Den) (σ : Sig) (F : Nat) : Prop where
  c48 : ∀ (x0 : (Int × (List (Int × Int)))) r, s_l2Good F x0 = some r → D 48 [Enc.enc x0] = some (Enc.enc (r : Bool))
  g48 : σ 48 = some (0, false)
  c92 : ∀ (x0 : (Int × (List (Int × Int)))) r, s_l5Best F x0 = some r → D 92 [Enc.enc x0] = some (Enc.enc (r : (List Int)))
  g92 : σ 92 = some (0, false)
abbrev R45 (r : ((List Int) × Bool)) : (Nat → V) → Prop := RR Try.prog [.tmp 2, .tmp 3] 0 true (.tup [Enc.enc (r.1 : (List Int)), Enc.enc (r.2 : Bool)])
section
variable {D : Den} {σ : Sig} {F : Nat} {r : ((List Int) × Bool)}
def s_BestElimination (F : Nat) (g_1 : (Int × (List (Int × Int)))) : Option ((List Int) × Bool) :=
  (s_l2Good F g_1).bind fun r_2 =>
  bif (!r_2) then
    some ([], false)
  else
    (s_l5Best F g_1).bind fun r_3 =>
    some (r_3, true)
theorem t45 (H : H45 D σ F) (g_1 : (Int × (List (Int × Int)))) (s : Nat → V) (hs : Facts [(0, (.agg [(.int .i64 g_1.1), (Enc.enc (g_1.2 : List (Int × Int)))]))] s) (h : s_BestElimination F g_1 = some r) : Run D σ (R45 r) (.run A45 []) s := by
  unfold s_BestElimination at h
  have h0 := hs
  refine .seq ?_
  refine run_reg ?_
  refine e_clr ?_
  refine e_end ?_
  refine g_box (.agg [(.int .i64 g_1.1), (Enc.enc (g_1.2 : List (Int × Int)))]) (rd_of (keep_clear (s := s) (pk := [1]) h0 rfl (map_agg (maps_cons rfl (maps_cons (Enc.map_enc _ (g_1.2 : List (Int × Int))) maps_nil)))) rfl) (gone_clear (s := s) (pk := [1]) (t := 1) rfl) rfl ?_
  refine g_v0 (.sl .nl (Enc.shp Int) 0 []) rfl rfl ?_
  refine g_v0 (.bool false) rfl rfl ?_
  refine g_end ?_
  refine e_end ?_
  refine renew [(1, (.ref (.bx 1) 0 [] (.agg [(.int .i64 g_1.1), (Enc.enc (g_1.2 : List (Int × Int)))]))), (2, (.sl .nl (Enc.shp Int) 0 [])), (3, (.bool false))] ⟨rfl, rfl, rfl⟩ ?_
  rintro s ⟨h1, h2, h3⟩
  refine .nsq ?_
  refine .seq ?_
  refine .seq ?_
  refine run_reg ?_
  refine e_end ?_
  refine g_v1 (t := 1) (u := (.ref (.bx 1) 0 [] (.agg [(.int .i64 g_1.1), (Enc.enc (g_1.2 : List (Int × Int)))]))) (.agg [(.int .i64 g_1.1), (Enc.enc (g_1.2 : List (Int × Int)))]) h1 rfl rfl ?_
  obtain ⟨r_2, E_r_2, h⟩ := bind_some h
  refine g_call (m := 0) (al := false) (r := (Enc.enc (r_2 : Bool))) [Enc.enc (g_1 : (Int × (List (Int × Int))))] (ta_cons (v := (.agg [(.int .i64 g_1.1), (Enc.enc (g_1.2 : List (Int × Int)))])) rfl rfl (Enc.erase_enc (g_1 : (Int × (List (Int × Int))))) ta_nil) (H.c48 _ _ E_r_2) H.g48 rfl rfl rfl rfl ?_
  refine g_v1 (t := 5) (u := (.bool r_2)) (.bool (!r_2)) rfl rfl rfl ?_
  refine g_end ?_
  refine e_end ?_
  refine renew [(1, (.ref (.bx 1) 0 [] (.agg [(.int .i64 g_1.1), (Enc.enc (g_1.2 : List (Int × Int)))]))), (2, (.sl .nl (Enc.shp Int) 0 [])), (3, (.bool false)), (6, (.bool (!r_2)))] ⟨h1, h2, h3, rfl⟩ ?_
  rintro s ⟨h1, h2, h3, h6⟩
  refine .nsq ?_
  refine run_cond (t := (!r_2)) h6 h (fun h => ?_) (fun h => ?_)
  · refine .seq ?_
    refine run_reg ?_
    refine e_clr ?_
    refine e_end ?_
    refine g_litL [] [] trivial rfl rfl (gone_clear (s := s) (pk := [7]) (t := 7) rfl) ?_
    refine g_v1 (t := 7) (u := (encO (.at 7 []) (.of ([] : List Int)))) (encO (.at 7 []) (.of ([] : List Int))) rfl rfl rfl ?_
    refine g_v0 (.bool false) rfl rfl ?_
    refine g_end ?_
    refine e_home (r := 7) (x := 2) (v := (encO (.at 7 []) (.of ([] : List Int)))) (by exact rfl) rfl (fun s_5 hg_5 => ?_)
    refine e_end ?_
    refine renew [(1, (.ref (.bx 1) 0 [] (.agg [(.int .i64 g_1.1), (Enc.enc (g_1.2 : List (Int × Int)))]))), (2, (encO (.at 2 []) (.of ([] : List Int)))), (3, (.bool false))] ⟨(hg_5 1 (.ref (.bx 1) 0 [] (.agg [(.int .i64 g_1.1), (Enc.enc (g_1.2 : List (Int × Int)))])) (.ref (.bx 1) 0 [] (.agg [(.int .i64 g_1.1), (Enc.enc (g_1.2 : List (Int × Int)))])) (keep_clear (s := s) (pk := [7]) h1 rfl (map_bx rfl (map_agg (maps_cons rfl (maps_cons (Enc.map_enc _ (g_1.2 : List (Int × Int))) maps_nil))))) (map_bx rfl (map_agg (maps_cons rfl (maps_cons (Enc.map_enc _ (g_1.2 : List (Int × Int))) maps_nil))))), (hg_5 2 (encO (.at 7 []) (.of ([] : List Int))) (encO (.at 2 []) (.of ([] : List Int))) rfl (map_encO (r := 7) (p := []) rfl rfl)), (hg_5 3 (.bool false) (.bool false) rfl rfl)⟩ ?_
    rintro s ⟨h1, h2, h3⟩
    refine .nsq ?_
    refine .ret ?_
    have hr := Option.some.inj h
    subst hr
    exact rrB (res_tmp h2) (res_tmp h3) (fin_ret1 (fin_tup (fins_cons (fin_own (o := .of [])) (fins_cons (fin_enc (x := (false : Bool))) fins_nil))))
  · refine .skip ?_
    refine .nsq ?_
    refine .seq ?_
    refine run_reg ?_
    refine e_end ?_
    refine g_v1 (t := 1) (u := (.ref (.bx 1) 0 [] (.agg [(.int .i64 g_1.1), (Enc.enc (g_1.2 : List (Int × Int)))]))) (.agg [(.int .i64 g_1.1), (Enc.enc (g_1.2 : List (Int × Int)))]) h1 rfl rfl ?_
    obtain ⟨r_3, E_r_3, h⟩ := bind_some h
    refine g_call (m := 0) (al := false) (r := (Enc.enc (r_3 : (List Int)))) [Enc.enc (g_1 : (Int × (List (Int × Int))))] (ta_cons (v := (.agg [(.int .i64 g_1.1), (Enc.enc (g_1.2 : List (Int × Int)))])) rfl rfl (Enc.erase_enc (g_1 : (Int × (List (Int × Int))))) ta_nil) (H.c92 _ _ E_r_3) H.g92 rfl rfl rfl rfl ?_
    refine g_v1 (t := 9) (u := (Enc.enc (r_3 : List Int))) (Enc.enc (r_3 : List Int)) rfl rfl rfl ?_
    refine g_v0 (.bool true) rfl rfl ?_
    refine g_end ?_
    refine e_end ?_
    refine renew [(2, (Enc.enc (r_3 : List Int))), (3, (.bool true))] ⟨rfl, rfl⟩ ?_
    rintro s ⟨h2, h3⟩
    refine .nsq ?_
    refine .ret ?_
    have hr := Option.some.inj h
    subst hr
    exact rrB (res_tmp h2) (res_tmp h3) (fin_ret1 (fin_tup (fins_cons (fin_enc (x := (r_3 : (List Int)))) (fins_cons (fin_enc (x := (true : Bool))) fins_nil))))
end
def e45 (F : Nat) : Ent := ⟨45, da (fun (x : ((Int × (List (Int × Int))) × Unit)) => s_BestElimination F x.1) (fun (r : ((List Int) × Bool)) => (.tup [Enc.enc (r.1 : (List Int)), Enc.enc (r.2 : Bool)])), 0, true, selF []⟩
theorem p45 {F : Nat} {x0 : (Int × (List (Int × Int)))} {r : ((List Int) × Bool)} (h : s_BestElimination F x0 = some r) : (e45 F).den [Enc.enc x0] = some (.tup [Enc.enc (r.1 : (List Int)), Enc.enc (r.2 : Bool)]) := da_put (f := fun (x : ((Int × (List (Int × Int))) × Unit)) => s_BestElimination F x.1) (t := fun (r : ((List Int) × Bool)) => (.tup [Enc.enc (r.1 : (List Int)), Enc.enc (r.2 : Bool)])) (x0, ()) h
theorem o45 {D : Den} {σ : Sig} {F : Nat} (hF : Fits2 Try.prog D σ) (H : H45 D σ F) : (e45 F).Ok Try.prog := by
  refine ok_of (f := 45) (show unk 45 = 45 from rfl) (fun args r h => ?_) ⟨Try.f45, Try.func45, rfl, rfl⟩
  obtain ⟨⟨x0, _⟩, y, rfl, hy, rfl⟩ := da_open h
  exact contract_run hF (by kernel_rfl) Try.func45 rfl c45 (show 1 ≤ Try.f45.ntmps by decide) (t45 H x0 _ rfl hy)
/- loop.example/g01109/impl.within -/
def A100_1 : AC := (.seq (.reg [] [(.mk (some 7) none false (.v (.mov (.t 0)))), (.mk (some 8) none false (.v (.mov (.t 1)))), (.mk (some 9) none false (.v (.bin .geq (.t 7) (.t 8)))), (.mk (some 10) none false (.v (.mov (.t 9)))), (.mk (some 11) (some (10, true)) false (.v (.mov (.t 0)))), (.mk (some 12) (some (10, true)) false (.v (.mov (.t 2)))), (.mk (some 13) (some (10, true)) false (.v (.bin .leq (.t 11) (.t 12)))), (.mk (some 14) none false (.v (.pick (.t 10) (.t 13) (.k (.bool false))))), (.mk (some 6) none false (.v (.mov (.t 14))))] []) .ret)
def A100 : AC := (.seq (.reg [] [(.mk (some 6) none false (.v (.mov (.k (.bool false)))))] []) A100_1)
def an100 : List An := []
theorem c100 : cC Try.prog Try.f100.ntmps an100 (Try.f100.body.getD .skip) = some A100 := by kernel_rfl
structure H100 (D : Den) (σ : Sig) (F : Nat) : Prop where
  mk ::
abbrev R100 (r : Bool) : (Nat → V) → Prop := RR Try.prog [.tmp 6] 0 false (Enc.enc (r : Bool))
section
variable {D : Den} {σ : Sig} {F : Nat} {r : Bool}
def i_within (F : Nat) (n_1 : Int) (low_2 : Int) (high_3 : Int) : Option Bool :=
  bif decide (n_1 ≥ low_2) then
    some (decide (n_1 ≤ high_3))
  else
    some false
theorem t100 (H : H100 D σ F) (n_1 : Int) (low_2 : Int) (high_3 : Int) (s : Nat → V) (hs : Facts [(0, (.int .i64 n_1)), (1, (.int .i64 low_2)), (2, (.int .i64 high_3))] s) (h : i_within F n_1 low_2 high_3 = some r) : Run D σ (R100 r) (.run A100 []) s := by
  unfold i_within at h
  obtain ⟨h0, h1, h2⟩ := hs
  refine .seq ?_
  refine run_reg ?_
  refine e_end ?_
  refine g_v0 (.bool false) rfl rfl ?_
  refine g_end ?_
  refine e_end ?_
  refine renew [(0, (.int .i64 n_1)), (1, (.int .i64 low_2)), (2, (.int .i64 high_3)), (6, (.bool false))] ⟨h0, h1, h2, rfl⟩ ?_
  rintro s ⟨h0, h1, h2, h6⟩
  refine .nsq ?_
  refine .seq ?_
  refine run_reg ?_
  refine e_end ?_
  refine g_v1 (t := 0) (u := (.int .i64 n_1)) (.int .i64 n_1) h0 rfl rfl ?_
  refine g_v1 (t := 1) (u := (.int .i64 low_2)) (.int .i64 low_2) h1 rfl rfl ?_
  refine g_v2 (t1 := 7) (t2 := 8) (u1 := (.int .i64 n_1)) (u2 := (.int .i64 low_2)) (.bool (decide (n_1 ≥ low_2))) rfl rfl rfl rfl ?_
  refine g_v1 (t := 9) (u := (.bool (decide (n_1 ≥ low_2)))) (.bool (decide (n_1 ≥ low_2))) rfl rfl rfl ?_
  refine split_on (c := decide (n_1 ≥ low_2)) h (fun hg4 h => ?_) (fun hg4 h => ?_)
  · refine g_yes (Eq.trans (b := .bool (decide (n_1 ≥ low_2))) rfl (congrArg V.bool hg4)) (g_v1 (t := 0) (u := (.int .i64 n_1)) (.int .i64 n_1) h0 rfl rfl ?_)
    refine g_yes (Eq.trans (b := .bool (decide (n_1 ≥ low_2))) rfl (congrArg V.bool hg4)) (g_v1 (t := 2) (u := (.int .i64 high_3)) (.int .i64 high_3) h2 rfl rfl ?_)
    refine g_yes (Eq.trans (b := .bool (decide (n_1 ≥ low_2))) rfl (congrArg V.bool hg4)) (g_v2 (t1 := 11) (t2 := 12) (u1 := (.int .i64 n_1)) (u2 := (.int .i64 high_3)) (.bool (decide (n_1 ≤ high_3))) rfl rfl rfl rfl ?_)
    refine g_v2 (t1 := 10) (t2 := 13) (u1 := (.bool true)) (u2 := (.bool (decide (n_1 ≤ high_3)))) (.bool (decide (n_1 ≤ high_3))) (Eq.trans (b := .bool (decide (n_1 ≥ low_2))) rfl (congrArg V.bool hg4)) rfl rfl rfl ?_
    refine g_v1 (t := 14) (u := (.bool (decide (n_1 ≤ high_3)))) (.bool (decide (n_1 ≤ high_3))) rfl rfl rfl ?_
    refine g_end ?_
    refine e_end ?_
    refine renew [(6, (.bool (decide (n_1 ≤ high_3))))] rfl ?_
    rintro s h6
    refine .nsq ?_
    refine .ret ?_
    have hr := Option.some.inj h
    subst hr
    exact rrA (res_tmp h6) rfl
  · refine g_no (Eq.trans (b := .bool (decide (n_1 ≥ low_2))) rfl (congrArg V.bool hg4)) ?_
    refine g_no (Eq.trans (b := .bool (decide (n_1 ≥ low_2))) rfl (congrArg V.bool hg4)) ?_
    refine g_no (Eq.trans (b := .bool (decide (n_1 ≥ low_2))) rfl (congrArg V.bool hg4)) ?_
    refine g_v2 (t1 := 10) (t2 := 13) (u1 := (.bool false)) (u2 := (.tup [])) (.bool false) (Eq.trans (b := .bool (decide (n_1 ≥ low_2))) rfl (congrArg V.bool hg4)) rfl rfl rfl ?_
    refine g_v1 (t := 14) (u := (.bool false)) (.bool false) rfl rfl rfl ?_
    refine g_end ?_
    refine e_end ?_
    refine renew [(6, (.bool false))] rfl ?_
    rintro s h6
    refine .nsq ?_
    refine .ret ?_
    have hr := Option.some.inj h
    subst hr
    exact rrA (res_tmp h6) rfl
end
def e100 (F : Nat) : Ent := ⟨100, da (fun (x : (Int × Int × Int × Unit)) => i_within F x.1 x.2.1 x.2.2.1) (fun (r : Bool) => (Enc.enc (r : Bool))), 0, false, selF []⟩
theorem p100 {F : Nat} {x0 : Int} {x1 : Int} {x2 : Int} {r : Bool} (h : i_within F x0 x1 x2 = some r) : (e100 F).den [Enc.enc x0, Enc.enc x1, Enc.enc x2] = some (Enc.enc (r : Bool)) := da_put (f := fun (x : (Int × Int × Int × Unit)) => i_within F x.1 x.2.1 x.2.2.1) (t := fun (r : Bool) => (Enc.enc (r : Bool))) (x0, x1, x2, ()) h
theorem o100 {D : Den} {σ : Sig} {F : Nat} (hF : Fits2 Try.prog D σ) (H : H100 D σ F) : (e100 F).Ok Try.prog := by
  refine ok_of (f := 100) (show unk 100 = 100 from rfl) (fun args r h => ?_) ⟨Try.f100, Try.func100, rfl, rfl⟩
  obtain ⟨⟨x0, x1, x2, _⟩, y, rfl, hy, rfl⟩ := da_open h
  exact contract_run hF (by kernel_rfl) Try.func100 rfl c100 (show 3 ≤ Try.f100.ntmps by decide) (t100 H x0 x1 x2 _ ⟨rfl, rfl, rfl⟩ hy)
/- cmp.isNaN[int] -/
def A126_1 : AC := (.seq (.reg [] [(.mk (some 3) none false (.v (.mov (.t 0)))), (.mk (some 4) none false (.v (.mov (.t 0)))), (.mk (some 5) none false (.v (.bin .neq (.t 3) (.t 4)))), (.mk (some 2) none false (.v (.mov (.t 5))))] []) .ret)
def A126 : AC := (.seq (.reg [] [(.mk (some 2) none false (.v (.mov (.k (.bool false)))))] []) A126_1)
def an126 : List An := []
theorem c126 : cC Try.prog Try.f126.ntmps an126 (Try.f126.body.getD .skip) = some A126 := by kernel_rfl
structure H126 (D : Den) (σ : Sig) (F : Nat) : Prop where
  mk ::
abbrev R126 (r : Bool) : (Nat → V) → Prop := RR Try.prog [.tmp 2] 0 false (Enc.enc (r : Bool))
section
variable {D : Den} {σ : Sig} {F : Nat} {r : Bool}
def cmp_isNaN_int (F : Nat) (x_1 : Int) : Option Bool :=
  some (x_1 != x_1)
theorem t126 (H : H126 D σ F) (x_1 : Int) (s : Nat → V) (hs : Facts [(0, (.int .i64 x_1))] s) (h : cmp_isNaN_int F x_1 = some r) : Run D σ (R126 r) (.run A126 []) s := by
  unfold cmp_isNaN_int at h
  have h0 := hs
  refine .seq ?_
  refine run_reg ?_
  refine e_end ?_
  refine g_v0 (.bool false) rfl rfl ?_
  refine g_end ?_
  refine e_end ?_
  refine renew [(0, (.int .i64 x_1)), (2, (.bool false))] ⟨h0, rfl⟩ ?_
  rintro s ⟨h0, h2⟩
  refine .nsq ?_
  refine .seq ?_
  refine run_reg ?_
  refine e_end ?_
  refine g_v1 (t := 0) (u := (.int .i64 x_1)) (.int .i64 x_1) h0 rfl rfl ?_
  refine g_v1 (t := 0) (u := (.int .i64 x_1)) (.int .i64 x_1) h0 rfl rfl ?_
  refine g_v2 (t1 := 3) (t2 := 4) (u1 := (.int .i64 x_1)) (u2 := (.int .i64 x_1)) (.bool (x_1 != x_1)) rfl rfl rfl rfl ?_
  refine g_v1 (t := 5) (u := (.bool (x_1 != x_1))) (.bool (x_1 != x_1)) rfl rfl rfl ?_
  refine g_end ?_
  refine e_end ?_
  refine renew [(2, (.bool (x_1 != x_1)))] rfl ?_
  rintro s h2
  refine .nsq ?_
  refine .ret ?_
  have hr := Option.some.inj h
  subst hr
  exact rrA (res_tmp h2) rfl
end
def e126 (F : Nat) : Ent := ⟨126, da (fun (x : (Int × Unit)) => cmp_isNaN_int F x.1) (fun (r : Bool) => (Enc.enc (r : Bool))), 0, false, selF []⟩
theorem p126 {F : Nat} {x0 : Int} {r : Bool} (h : cmp_isNaN_int F x0 = some r) : (e126 F).den [Enc.enc x0] = some (Enc.enc (r : Bool)) := da_put (f := fun (x : (Int × Unit)) => cmp_isNaN_int F x.1) (t := fun (r : Bool) => (Enc.enc (r : Bool))) (x0, ()) h
theorem o126 {D : Den} {σ : Sig} {F : Nat} (hF : Fits2 Try.prog D σ) (H : H126 D σ F) : (e126 F).Ok Try.prog := by
  refine ok_of (f := 126) (show unk 126 = 126 from rfl) (fun args r h => ?_) ⟨Try.f126, Try.func126, rfl, rfl⟩
  obtain ⟨⟨x0, _⟩, y, rfl, hy, rfl⟩ := da_open h
  exact contract_run hF (by kernel_rfl) Try.func126 rfl c126 (show 1 ≤ Try.f126.ntmps by decide) (t126 H x0 _ rfl hy)
/- cmp.Compare[int] -/
def A123_5 : AC := (.cond (.t 12) (.seq (.reg [] [(.mk (some 4) none false (.v (.mov (.k (.int .i64 (.ofNat 0))))))] []) .ret) .skip)
def A123_6 : AC := (.seq (.reg [] [(.mk (some 4) none false (.v (.mov (.k (.int .i64 (.negSucc 0))))))] []) .ret)
def A123_4 : AC := (.cond (.t 11) (.seq (.seq (.reg [] [(.mk (some 12) none false (.v (.mov (.t 6))))] []) A123_5) A123_6) .skip)
def A123_8 : AC := (.cond (.t 13) (.seq (.reg [] [(.mk (some 4) none false (.v (.mov (.k (.int .i64 (.ofNat 1))))))] []) .ret) .skip)
def A123_10 : AC := (.cond (.t 16) (.seq (.reg [] [(.mk (some 4) none false (.v (.mov (.k (.int .i64 (.negSucc 0))))))] []) .ret) .skip)
def A123_12 : AC := (.cond (.t 19) (.seq (.reg [] [(.mk (some 4) none false (.v (.mov (.k (.int .i64 (.ofNat 1))))))] []) .ret) .skip)
def A123_13 : AC := (.seq (.reg [] [(.mk (some 4) none false (.v (.mov (.k (.int .i64 (.ofNat 0))))))] []) .ret)
def A123_11 : AC := (.seq (.seq (.reg [] [(.mk (some 17) none false (.v (.mov (.t 0)))), (.mk (some 18) none false (.v (.mov (.t 1)))), (.mk (some 19) none false (.v (.bin .gtr (.t 17) (.t 18))))] []) A123_12) A123_13)
def A123_9 : AC := (.seq (.seq (.reg [] [(.mk (some 14) none false (.v (.mov (.t 0)))), (.mk (some 15) none false (.v (.mov (.t 1)))), (.mk (some 16) none false (.v (.bin .lss (.t 14) (.t 15))))] []) A123_10) A123_11)
def A123_7 : AC := (.seq (.seq (.reg [] [(.mk (some 13) none false (.v (.mov (.t 6))))] []) A123_8) A123_9)
def A123_3 : AC := (.seq (.seq (.reg [] [(.mk (some 11) none false (.v (.mov (.t 5))))] []) A123_4) A123_7)
def A123_2 : AC := (.seq (.reg [] [(.mk (some 9) none false (.v (.mov (.t 1)))), (.mk (some 10) none false (.call (.k (.fn 126 [] [])) [(.t 9)])), (.mk (some 6) none false (.v (.mov (.t 10))))] []) A123_3)
def A123_1 : AC := (.seq (.reg [] [(.mk (some 7) none false (.v (.mov (.t 0)))), (.mk (some 8) none false (.call (.k (.fn 126 [] [])) [(.t 7)])), (.mk (some 5) none false (.v (.mov (.t 8))))] []) A123_2)
def A123 : AC := (.seq (.reg [] [(.mk (some 4) none false (.v (.mov (.k (.int .i64 (.ofNat 0))))))] []) A123_1)
def an123 : List An := []
theorem c123 : cC Try.prog Try.f123.ntmps an123 (Try.f123.body.getD .skip) = some A123 := by kernel_rfl
structure H123 (D : Den) (σ : Sig) (F : Nat) : Prop where
  c126 : ∀ (x0 : Int) r, cmp_isNaN_int F x0 = some r → D 126 [Enc.enc x0] = some (Enc.enc (r : Bool))
  g126 : σ 126 = some (0, false)
abbrev R123 (r : Int) : (Nat → V) → Prop := RR Try.prog [.tmp 4] 0 false (Enc.enc (r : Int))
section
variable {D : Den} {σ : Sig} {F : Nat} {r : Int}
def cmp_Compare_int (F : Nat) (x_1 : Int) (y_2 : Int) : Option Int :=
  (cmp_isNaN_int F x_1).bind fun r_3 =>
  (cmp_isNaN_int F y_2).bind fun r_4 =>
  bif r_3 then
    bif r_4 then
      some 0
    else
      some (-1)
  else
    bif r_4 then
      some 1
    else
      bif decide (x_1 < y_2) then
        some (-1)
      else
        bif decide (x_1 > y_2) then
          some 1
        else
          some 0
theorem t123 (H : H123 D σ F) (x_1 : Int) (y_2 : Int) (s : Nat → V) (hs : Facts [(0, (.int .i64 x_1)), (1, (.int .i64 y_2))] s) (h : cmp_Compare_int F x_1 y_2 = some r) : Run D σ (R123 r) (.run A123 []) s := by
  unfold cmp_Compare_int at h
  obtain ⟨h0, h1⟩ := hs
  refine .seq ?_
  refine run_reg ?_
  refine e_end ?_
  refine g_v0 (.int .i64 0) rfl rfl ?_
  refine g_end ?_
  refine e_end ?_
  refine renew [(0, (.int .i64 x_1)), (1, (.int .i64 y_2)), (4, (.int .i64 0))] ⟨h0, h1, rfl⟩ ?_
  rintro s ⟨h0, h1, h4⟩
  refine .nsq ?_
  refine .seq ?_
  refine run_reg ?_
  refine e_end ?_
  refine g_v1 (t := 0) (u := (.int .i64 x_1)) (.int .i64 x_1) h0 rfl rfl ?_
  obtain ⟨r_3, E_r_3, h⟩ := bind_some h
  refine g_call (m := 0) (al := false) (r := (Enc.enc (r_3 : Bool))) [Enc.enc (x_1 : Int)] (ta_cons (v := (.int .i64 x_1)) rfl rfl rfl ta_nil) (H.c126 _ _ E_r_3) H.g126 rfl rfl rfl rfl ?_
  refine g_v1 (t := 8) (u := (.bool r_3)) (.bool r_3) rfl rfl rfl ?_
  refine g_end ?_
  refine e_end ?_
  refine renew [(0, (.int .i64 x_1)), (1, (.int .i64 y_2)), (4, (.int .i64 0)), (5, (.bool r_3))] ⟨h0, h1, h4, rfl⟩ ?_
  rintro s ⟨h0, h1, h4, h5⟩
  refine .nsq ?_
  refine .seq ?_
  refine run_reg ?_
  refine e_end ?_
  refine g_v1 (t := 1) (u := (.int .i64 y_2)) (.int .i64 y_2) h1 rfl rfl ?_
  obtain ⟨r_4, E_r_4, h⟩ := bind_some h
  refine g_call (m := 0) (al := false) (r := (Enc.enc (r_4 : Bool))) [Enc.enc (y_2 : Int)] (ta_cons (v := (.int .i64 y_2)) rfl rfl rfl ta_nil) (H.c126 _ _ E_r_4) H.g126 rfl rfl rfl rfl ?_
  refine g_v1 (t := 10) (u := (.bool r_4)) (.bool r_4) rfl rfl rfl ?_
  refine g_end ?_
  refine e_end ?_
  refine renew [(0, (.int .i64 x_1)), (1, (.int .i64 y_2)), (4, (.int .i64 0)), (5, (.bool r_3)), (6, (.bool r_4))] ⟨h0, h1, h4, h5, rfl⟩ ?_
  rintro s ⟨h0, h1, h4, h5, h6⟩
  refine .nsq ?_
  refine .seq ?_
  refine .seq ?_
  refine run_reg ?_
  refine e_end ?_
  refine g_v1 (t := 5) (u := (.bool r_3)) (.bool r_3) h5 rfl rfl ?_
  refine g_end ?_
  refine e_end ?_
  refine renew [(0, (.int .i64 x_1)), (1, (.int .i64 y_2)), (4, (.int .i64 0)), (6, (.bool r_4)), (11, (.bool r_3))] ⟨h0, h1, h4, h6, rfl⟩ ?_
  rintro s ⟨h0, h1, h4, h6, h11⟩
  refine .nsq ?_
  refine run_cond (t := r_3) h11 h (fun h => ?_) (fun h => ?_)
  · refine .seq ?_
    refine .seq ?_
    refine run_reg ?_
    refine e_end ?_
    refine g_v1 (t := 6) (u := (.bool r_4)) (.bool r_4) h6 rfl rfl ?_
    refine g_end ?_
    refine e_end ?_
    refine renew [(0, (.int .i64 x_1)), (1, (.int .i64 y_2)), (4, (.int .i64 0)), (6, (.bool r_4)), (12, (.bool r_4))] ⟨h0, h1, h4, h6, rfl⟩ ?_
    rintro s ⟨h0, h1, h4, h6, h12⟩
    refine .nsq ?_
    refine run_cond (t := r_4) h12 h (fun h => ?_) (fun h => ?_)
    · refine .seq ?_
      refine run_reg ?_
      refine e_end ?_
      refine g_v0 (.int .i64 0) rfl rfl ?_
      refine g_end ?_
      refine e_end ?_
      refine renew [(0, (.int .i64 x_1)), (1, (.int .i64 y_2)), (4, (.int .i64 0)), (6, (.bool r_4))] ⟨h0, h1, rfl, h6⟩ ?_
      rintro s ⟨h0, h1, h4, h6⟩
      refine .nsq ?_
      refine .ret ?_
      have hr := Option.some.inj h
      subst hr
      exact rrA (res_tmp h4) rfl
    · refine .skip ?_
      refine .nsq ?_
      refine .seq ?_
      refine run_reg ?_
      refine e_end ?_
      refine g_v0 (.int .i64 (-1)) rfl rfl ?_
      refine g_end ?_
      refine e_end ?_
      refine renew [(0, (.int .i64 x_1)), (1, (.int .i64 y_2)), (4, (.int .i64 (-1))), (6, (.bool r_4))] ⟨h0, h1, rfl, h6⟩ ?_
      rintro s ⟨h0, h1, h4, h6⟩
      refine .nsq ?_
      refine .ret ?_
      have hr := Option.some.inj h
      subst hr
      exact rrA (res_tmp h4) rfl
  · refine .skip ?_
    refine .nsq ?_
    refine .seq ?_
    refine .seq ?_
    refine run_reg ?_
    refine e_end ?_
    refine g_v1 (t := 6) (u := (.bool r_4)) (.bool r_4) h6 rfl rfl ?_
    refine g_end ?_
    refine e_end ?_
    refine renew [(0, (.int .i64 x_1)), (1, (.int .i64 y_2)), (4, (.int .i64 0)), (13, (.bool r_4))] ⟨h0, h1, h4, rfl⟩ ?_
    rintro s ⟨h0, h1, h4, h13⟩
    refine .nsq ?_
    refine run_cond (t := r_4) h13 h (fun h => ?_) (fun h => ?_)
    · refine .seq ?_
      refine run_reg ?_
      refine e_end ?_
      refine g_v0 (.int .i64 1) rfl rfl ?_
      refine g_end ?_
      refine e_end ?_
      refine renew [(0, (.int .i64 x_1)), (1, (.int .i64 y_2)), (4, (.int .i64 1))] ⟨h0, h1, rfl⟩ ?_
      rintro s ⟨h0, h1, h4⟩
      refine .nsq ?_
      refine .ret ?_
      have hr := Option.some.inj h
      subst hr
      exact rrA (res_tmp h4) rfl
    · refine .skip ?_
      refine .nsq ?_
      refine .seq ?_
      refine .seq ?_
      refine run_reg ?_
      refine e_end ?_
      refine g_v1 (t := 0) (u := (.int .i64 x_1)) (.int .i64 x_1) h0 rfl rfl ?_
      refine g_v1 (t := 1) (u := (.int .i64 y_2)) (.int .i64 y_2) h1 rfl rfl ?_
      refine g_v2 (t1 := 14) (t2 := 15) (u1 := (.int .i64 x_1)) (u2 := (.int .i64 y_2)) (.bool (decide (x_1 < y_2))) rfl rfl rfl rfl ?_
      refine g_end ?_
      refine e_end ?_
      refine renew [(0, (.int .i64 x_1)), (1, (.int .i64 y_2)), (4, (.int .i64 0)), (16, (.bool (decide (x_1 < y_2))))] ⟨h0, h1, h4, rfl⟩ ?_
      rintro s ⟨h0, h1, h4, h16⟩
      refine .nsq ?_
      refine run_cond (t := decide (x_1 < y_2)) h16 h (fun h => ?_) (fun h => ?_)
      · refine .seq ?_
        refine run_reg ?_
        refine e_end ?_
        refine g_v0 (.int .i64 (-1)) rfl rfl ?_
        refine g_end ?_
        refine e_end ?_
        refine renew [(0, (.int .i64 x_1)), (1, (.int .i64 y_2)), (4, (.int .i64 (-1)))] ⟨h0, h1, rfl⟩ ?_
        rintro s ⟨h0, h1, h4⟩
        refine .nsq ?_
        refine .ret ?_
        have hr := Option.some.inj h
        subst hr
        exact rrA (res_tmp h4) rfl
      · refine .skip ?_
        refine .nsq ?_
        refine .seq ?_
        refine .seq ?_
        refine run_reg ?_
        refine e_end ?_
        refine g_v1 (t := 0) (u := (.int .i64 x_1)) (.int .i64 x_1) h0 rfl rfl ?_
        refine g_v1 (t := 1) (u := (.int .i64 y_2)) (.int .i64 y_2) h1 rfl rfl ?_
        refine g_v2 (t1 := 17) (t2 := 18) (u1 := (.int .i64 x_1)) (u2 := (.int .i64 y_2)) (.bool (decide (x_1 > y_2))) rfl rfl rfl rfl ?_
        refine g_end ?_
        refine e_end ?_
        refine renew [(4, (.int .i64 0)), (19, (.bool (decide (x_1 > y_2))))] ⟨h4, rfl⟩ ?_
        rintro s ⟨h4, h19⟩
        refine .nsq ?_
        refine run_cond (t := decide (x_1 > y_2)) h19 h (fun h => ?_) (fun h => ?_)
        · refine .seq ?_
          refine run_reg ?_
          refine e_end ?_
          refine g_v0 (.int .i64 1) rfl rfl ?_
          refine g_end ?_
          refine e_end ?_
          refine renew [(4, (.int .i64 1))] rfl ?_
          rintro s h4
          refine .nsq ?_
          refine .ret ?_
          have hr := Option.some.inj h
          subst hr
          exact rrA (res_tmp h4) rfl
        · refine .skip ?_
          refine .nsq ?_
          refine .seq ?_
          refine run_reg ?_
          refine e_end ?_
          refine g_v0 (.int .i64 0) rfl rfl ?_
          refine g_end ?_
          refine e_end ?_
          refine renew [(4, (.int .i64 0))] rfl ?_
          rintro s h4
          refine .nsq ?_
          refine .ret ?_
          have hr := Option.some.inj h
          subst hr
          exact rrA (res_tmp h4) rfl
end
def e123 (F : Nat) : Ent := ⟨123, da (fun (x : (Int × Int × Unit)) => cmp_Compare_int F x.1 x.2.1) (fun (r : Int) => (Enc.enc (r : Int))), 0, false, selF []⟩
theorem p123 {F : Nat} {x0 : Int} {x1 : Int} {r : Int} (h : cmp_Compare_int F x0 x1 = some r) : (e123 F).den [Enc.enc x0, Enc.enc x1] = some (Enc.enc (r : Int)) := da_put (f := fun (x : (Int × Int × Unit)) => cmp_Compare_int F x.1 x.2.1) (t := fun (r : Int) => (Enc.enc (r : Int))) (x0, x1, ()) h
theorem o123 {D : Den} {σ : Sig} {F : Nat} (hF : Fits2 Try.prog D σ) (H : H123 D σ F) : (e123 F).Ok Try.prog := by
  refine ok_of (f := 123) (show unk 123 = 123 from rfl) (fun args r h => ?_) ⟨Try.f123, Try.func123, rfl, rfl⟩
  obtain ⟨⟨x0, x1, _⟩, y, rfl, hy, rfl⟩ := da_open h
  exact contract_run hF (by kernel_rfl) Try.func123 rfl c123 (show 2 ≤ Try.f123.ntmps by decide) (t123 H x0 x1 _ ⟨rfl, rfl⟩ hy)
/- slices.Compare[[]int,int] -/
def A101_5 : AC := (.cond (.t 19) (.seq (.reg [] [(.mk (some 4) none false (.v (.mov (.k (.int .i64 (.ofNat 1))))))] []) .ret) .skip)
def A101_9 : AC := (.cond (.t 28) (.seq (.reg [] [(.mk (some 29) none false (.v (.mov (.t 8)))), (.mk (some 4) none false (.v (.mov (.t 29))))] []) .ret) .skip)
def A101_8 : AC := (.seq (.reg [] [(.mk (some 27) none false (.v (.mov (.t 8)))), (.mk (some 28) none false (.v (.bin .neq (.t 27) (.k (.int .i64 (.ofNat 0))))))] []) A101_9)
def A101_7 : AC := (.seq (.reg [] [(.mk (some 24) none false (.v (.mov (.t 6)))), (.mk (some 25) none false (.v (.mov (.t 7)))), (.mk (some 26) none false (.call (.k (.fn 123 [] [])) [(.t 24), (.t 25)])), (.mk (some 8) none false (.v (.mov (.t 26))))] []) A101_8)
def A101_6 : AC := (.seq (.reg [] [(.mk (some 20) none false (.v (.mov (.t 1)))), (.mk (some 21) none false (.v (.mov (.t 5)))), (.mk (some 22) none false (.v (.idx (.t 20) (.t 21) 1))), (.mk (some 23) none false (.v (.load .s (.t 22)))), (.mk (some 7) none false (.v (.mov (.t 23))))] []) A101_7)
def A101_4 : AC := (.seq (.seq (.reg [] [(.mk (some 16) none false (.v (.mov (.t 5)))), (.mk (some 17) none false (.v (.mov (.t 1)))), (.mk (some 18) none false (.v (.len (.t 17)))), (.mk (some 19) none false (.v (.bin .geq (.t 16) (.t 18))))] []) A101_5) A101_6)
def A101_10 : AC := (.reg [] [(.mk (some 30) none false (.v (.bin .add (.t 11) (.k (.int .i64 (.ofNat 1)))))), (.mk (some 11) none false (.v (.mov (.t 30))))] [])
def A101_3 : AC := (.seq (.block 1 (.seq (.reg [] [(.mk (some 13) none false (.v (.mov (.t 11)))), (.mk (some 14) none false (.v (.idx (.t 9) (.t 11) 1))), (.mk (some 15) none false (.v (.load .s (.t 14)))), (.mk (some 5) none false (.v (.mov (.t 13)))), (.mk (some 6) none false (.v (.mov (.t 15))))] []) A101_4)) A101_10)
def A101_2 : AC := (.seq (.cond (.t 12) .skip (.exit 0)) A101_3)
def A101_1 : AC := (.seq (.reg [] [(.mk (some 12) none false (.v (.bin .lss (.t 11) (.t 10))))] []) A101_2)
def A101_12 : AC := (.cond (.t 35) (.seq (.reg [] [(.mk (some 4) none false (.v (.mov (.k (.int .i64 (.negSucc 0))))))] []) .ret) .skip)
def A101_13 : AC := (.seq (.reg [] [(.mk (some 4) none false (.v (.mov (.k (.int .i64 (.ofNat 0))))))] []) .ret)
def A101_11 : AC := (.seq (.seq (.reg [] [(.mk (some 31) none false (.v (.mov (.t 0)))), (.mk (some 32) none false (.v (.len (.t 31)))), (.mk (some 33) none false (.v (.mov (.t 1)))), (.mk (some 34) none false (.v (.len (.t 33)))), (.mk (some 35) none false (.v (.bin .lss (.t 32) (.t 34))))] []) A101_12) A101_13)
def A101_15 : AC := (.block 0 (.loop A101_1))
def A101_14 : AC := (.seq (.seq (.reg [] [(.mk (some 9) none false (.v (.mov (.t 0)))), (.mk (some 10) none false (.v (.len (.t 9)))), (.mk (some 11) none false (.v (.mov (.k (.int .i64 (.ofNat 0))))))] []) A101_15) A101_11)
def A101 : AC := (.seq (.reg [] [(.mk (some 4) none false (.v (.mov (.k (.int .i64 (.ofNat 0))))))] []) A101_14)
def an101 : List An := []
theorem c101 : cC Try.prog Try.f101.ntmps an101 (Try.f101.body.getD .skip) = some A101 := by kernel_rfl
structure H101 (D : Den) (σ : Sig) (F : Nat) : Prop where
  c123 : ∀ (x0 : Int) (x1 : Int) r, cmp_Compare_int F x0 x1 = some r → D 123 [Enc.enc x0, Enc.enc x1] = some (Enc.enc (r : Int))
  g123 : σ 123 = some (0, false)
abbrev R101 (r : Int) : (Nat → V) → Prop := RR Try.prog [.tmp 4] 0 false (Enc.enc (r : Int))
section
variable {D : Den} {σ : Sig} {F : Nat} {r : Int}
def slices_Compare_l1 (F : Nat) (s1_1 : (List Int)) (s2_2 : (List Int))  : Nat → Int → Option Int
  | 0, _ => none
  | k + 1, t11_6 =>
    bif decide (t11_6 < (s1_1.length : Int)) then
      (idx s1_1 t11_6).bind fun e_10 =>
      bif decide (t11_6 ≥ (s2_2.length : Int)) then
        some 1
      else
        (idx s2_2 t11_6).bind fun e_11 =>
        (cmp_Compare_int F e_10 e_11).bind fun r_12 =>
        bif (r_12 != 0) then
          some r_12
        else
          (slices_Compare_l1 F s1_1 s2_2 k) (w64 (t11_6 + 1))
    else
      bif decide ((s1_1.length : Int) < (s2_2.length : Int)) then
        some (-1)
      else
        some 0
theorem t_f101_l1 (H : H101 D σ F) (s1_1 : (List Int)) (s2_2 : (List Int))  : ∀ (k : Nat) (t11_6 : Int) (s : Nat → V), Facts [(0, (Enc.enc (s1_1 : List Int))), (1, (Enc.enc (s2_2 : List Int))), (4, (.int .i64 0)), (9, (Enc.enc (s1_1 : List Int))), (10, (.int .i64 (s1_1.length : Int))), (11, (.int .i64 t11_6))] s → slices_Compare_l1 F s1_1 s2_2 k t11_6 = some r → Run D σ (R101 r) (.run A101_1 [.lp A101_1, .bk 0, .sq A101_11]) s := by
  intro k
  induction k with
  | zero => intro t11_6 s _ h; exact nomatch (h : (none : Option _) = some r)
  | succ k ih =>
    intro t11_6 s hs h
    rw [slices_Compare_l1] at h
    obtain ⟨h0, h1, h4, h9, h10, h11⟩ := hs
    refine .seq ?_
    refine run_reg ?_
    refine e_end ?_
    refine g_v2 (t1 := 11) (t2 := 10) (u1 := (.int .i64 t11_6)) (u2 := (.int .i64 (s1_1.length : Int))) (.bool (decide (t11_6 < (s1_1.length : Int)))) h11 h10 rfl rfl ?_
    refine g_end ?_
    refine e_end ?_
    refine renew [(0, (Enc.enc (s1_1 : List Int))), (1, (Enc.enc (s2_2 : List Int))), (4, (.int .i64 0)), (9, (Enc.enc (s1_1 : List Int))), (10, (.int .i64 (s1_1.length : Int))), (11, (.int .i64 t11_6)), (12, (.bool (decide (t11_6 < (s1_1.length : Int)))))] ⟨h0, h1, h4, h9, h10, h11, rfl⟩ ?_
    rintro s ⟨h0, h1, h4, h9, h10, h11, h12⟩
    refine .nsq ?_
    refine .seq ?_
    refine run_cond (t := decide (t11_6 < (s1_1.length : Int))) h12 h (fun h => ?_) (fun h => ?_)
    · refine .skip ?_
      refine .nsq ?_
      refine .seq ?_
      refine .block ?_
      refine .seq ?_
      refine run_reg ?_
      refine e_end ?_
      refine g_v1 (t := 11) (u := (.int .i64 t11_6)) (.int .i64 t11_6) h11 rfl rfl ?_
      obtain ⟨e_10, E_e_10, h⟩ := bind_some h
      refine g_v (.ref .sh 0 [] (.int .i64 e_10)) (ev_idx (t := .sh) (lo := 0) (xs := s1_1) h9 h11 E_e_10 rfl rfl) ?_
      refine g_v1 (t := 14) (u := (.ref .sh 0 [] (.int .i64 e_10))) (.int .i64 e_10) rfl rfl rfl ?_
      refine g_v1 (t := 13) (u := (.int .i64 t11_6)) (.int .i64 t11_6) rfl rfl rfl ?_
      refine g_v1 (t := 15) (u := (.int .i64 e_10)) (.int .i64 e_10) rfl rfl rfl ?_
      refine g_end ?_
      refine e_end ?_
      refine renew [(0, (Enc.enc (s1_1 : List Int))), (1, (Enc.enc (s2_2 : List Int))), (4, (.int .i64 0)), (5, (.int .i64 t11_6)), (6, (.int .i64 e_10)), (9, (Enc.enc (s1_1 : List Int))), (10, (.int .i64 (s1_1.length : Int))), (11, (.int .i64 t11_6))] ⟨h0, h1, h4, rfl, rfl, h9, h10, h11⟩ ?_
      rintro s ⟨h0, h1, h4, h5, h6, h9, h10, h11⟩
      refine .nsq ?_
      refine .seq ?_
      refine .seq ?_
      refine run_reg ?_
      refine e_end ?_
      refine g_v1 (t := 5) (u := (.int .i64 t11_6)) (.int .i64 t11_6) h5 rfl rfl ?_
      refine g_v1 (t := 1) (u := (Enc.enc (s2_2 : List Int))) (Enc.enc (s2_2 : List Int)) h1 rfl rfl ?_
      refine g_v (.int .i64 (s2_2.length : Int)) (ev_len (xs := s2_2) rfl) ?_
      refine g_v2 (t1 := 16) (t2 := 18) (u1 := (.int .i64 t11_6)) (u2 := (.int .i64 (s2_2.length : Int))) (.bool (decide (t11_6 ≥ (s2_2.length : Int)))) rfl rfl rfl rfl ?_
      refine g_end ?_
      refine e_end ?_
      refine renew [(0, (Enc.enc (s1_1 : List Int))), (1, (Enc.enc (s2_2 : List Int))), (4, (.int .i64 0)), (5, (.int .i64 t11_6)), (6, (.int .i64 e_10)), (9, (Enc.enc (s1_1 : List Int))), (10, (.int .i64 (s1_1.length : Int))), (11, (.int .i64 t11_6)), (19, (.bool (decide (t11_6 ≥ (s2_2.length : Int)))))] ⟨h0, h1, h4, h5, h6, h9, h10, h11, rfl⟩ ?_
      rintro s ⟨h0, h1, h4, h5, h6, h9, h10, h11, h19⟩
      refine .nsq ?_
      refine run_cond (t := decide (t11_6 ≥ (s2_2.length : Int))) h19 h (fun h => ?_) (fun h => ?_)
      · refine .seq ?_
        refine run_reg ?_
        refine e_end ?_
        refine g_v0 (.int .i64 1) rfl rfl ?_
        refine g_end ?_
        refine e_end ?_
        refine renew [(0, (Enc.enc (s1_1 : List Int))), (1, (Enc.enc (s2_2 : List Int))), (4, (.int .i64 1)), (5, (.int .i64 t11_6)), (6, (.int .i64 e_10)), (9, (Enc.enc (s1_1 : List Int))), (10, (.int .i64 (s1_1.length : Int))), (11, (.int .i64 t11_6))] ⟨h0, h1, rfl, h5, h6, h9, h10, h11⟩ ?_
        rintro s ⟨h0, h1, h4, h5, h6, h9, h10, h11⟩
        refine .nsq ?_
        refine .ret ?_
        have hr := Option.some.inj h
        subst hr
        exact rrA (res_tmp h4) rfl
      · refine .skip ?_
        refine .nsq ?_
        refine .seq ?_
        refine run_reg ?_
        refine e_end ?_
        refine g_v1 (t := 1) (u := (Enc.enc (s2_2 : List Int))) (Enc.enc (s2_2 : List Int)) h1 rfl rfl ?_
        refine g_v1 (t := 5) (u := (.int .i64 t11_6)) (.int .i64 t11_6) h5 rfl rfl ?_
        obtain ⟨e_11, E_e_11, h⟩ := bind_some h
        refine g_v (.ref .sh 0 [] (.int .i64 e_11)) (ev_idx (t := .sh) (lo := 0) (xs := s2_2) rfl rfl E_e_11 rfl rfl) ?_
        refine g_v1 (t := 22) (u := (.ref .sh 0 [] (.int .i64 e_11))) (.int .i64 e_11) rfl rfl rfl ?_
        refine g_v1 (t := 23) (u := (.int .i64 e_11)) (.int .i64 e_11) rfl rfl rfl ?_
        refine g_end ?_
        refine e_end ?_
        refine renew [(0, (Enc.enc (s1_1 : List Int))), (1, (Enc.enc (s2_2 : List Int))), (4, (.int .i64 0)), (6, (.int .i64 e_10)), (7, (.int .i64 e_11)), (9, (Enc.enc (s1_1 : List Int))), (10, (.int .i64 (s1_1.length : Int))), (11, (.int .i64 t11_6))] ⟨h0, h1, h4, h6, rfl, h9, h10, h11⟩ ?_
        rintro s ⟨h0, h1, h4, h6, h7, h9, h10, h11⟩
        refine .nsq ?_
        refine .seq ?_
        refine run_reg ?_
        refine e_end ?_
        refine g_v1 (t := 6) (u := (.int .i64 e_10)) (.int .i64 e_10) h6 rfl rfl ?_
        refine g_v1 (t := 7) (u := (.int .i64 e_11)) (.int .i64 e_11) h7 rfl rfl ?_
        obtain ⟨r_12, E_r_12, h⟩ := bind_some h
        refine g_call (m := 0) (al := false) (r := (Enc.enc (r_12 : Int))) [Enc.enc (e_10 : Int), Enc.enc (e_11 : Int)] (ta_cons (v := (.int .i64 e_10)) rfl rfl rfl (ta_cons (v := (.int .i64 e_11)) rfl rfl rfl ta_nil)) (H.c123 _ _ _ E_r_12) H.g123 rfl rfl rfl rfl ?_
        refine g_v1 (t := 26) (u := (.int .i64 r_12)) (.int .i64 r_12) rfl rfl rfl ?_
        refine g_end ?_
        refine e_end ?_
        refine renew [(0, (Enc.enc (s1_1 : List Int))), (1, (Enc.enc (s2_2 : List Int))), (4, (.int .i64 0)), (8, (.int .i64 r_12)), (9, (Enc.enc (s1_1 : List Int))), (10, (.int .i64 (s1_1.length : Int))), (11, (.int .i64 t11_6))] ⟨h0, h1, h4, rfl, h9, h10, h11⟩ ?_
        rintro s ⟨h0, h1, h4, h8, h9, h10, h11⟩
        refine .nsq ?_
        refine .seq ?_
        refine run_reg ?_
        refine e_end ?_
        refine g_v1 (t := 8) (u := (.int .i64 r_12)) (.int .i64 r_12) h8 rfl rfl ?_
        refine g_v1 (t := 27) (u := (.int .i64 r_12)) (.bool (r_12 != 0)) rfl rfl rfl ?_
        refine g_end ?_
        refine e_end ?_
        refine renew [(0, (Enc.enc (s1_1 : List Int))), (1, (Enc.enc (s2_2 : List Int))), (4, (.int .i64 0)), (8, (.int .i64 r_12)), (9, (Enc.enc (s1_1 : List Int))), (10, (.int .i64 (s1_1.length : Int))), (11, (.int .i64 t11_6)), (28, (.bool (r_12 != 0)))] ⟨h0, h1, h4, h8, h9, h10, h11, rfl⟩ ?_
        rintro s ⟨h0, h1, h4, h8, h9, h10, h11, h28⟩
        refine .nsq ?_
        refine run_cond (t := (r_12 != 0)) h28 h (fun h => ?_) (fun h => ?_)
        · refine .seq ?_
          refine run_reg ?_
          refine e_end ?_
          refine g_v1 (t := 8) (u := (.int .i64 r_12)) (.int .i64 r_12) h8 rfl rfl ?_
          refine g_v1 (t := 29) (u := (.int .i64 r_12)) (.int .i64 r_12) rfl rfl rfl ?_
          refine g_end ?_
          refine e_end ?_
          refine renew [(0, (Enc.enc (s1_1 : List Int))), (1, (Enc.enc (s2_2 : List Int))), (4, (.int .i64 r_12)), (9, (Enc.enc (s1_1 : List Int))), (10, (.int .i64 (s1_1.length : Int))), (11, (.int .i64 t11_6))] ⟨h0, h1, rfl, h9, h10, h11⟩ ?_
          rintro s ⟨h0, h1, h4, h9, h10, h11⟩
          refine .nsq ?_
          refine .ret ?_
          have hr := Option.some.inj h
          subst hr
          exact rrA (res_tmp h4) rfl
        · refine .skip ?_
          refine .nbk ?_
          refine .nsq ?_
          refine run_reg ?_
          refine e_end ?_
          refine g_v1 (t := 11) (u := (.int .i64 t11_6)) (.int .i64 (w64 (t11_6 + 1))) h11 rfl rfl ?_
          refine g_v1 (t := 30) (u := (.int .i64 (w64 (t11_6 + 1)))) (.int .i64 (w64 (t11_6 + 1))) rfl rfl rfl ?_
          refine g_end ?_
          refine e_end ?_
          refine renew [(0, (Enc.enc (s1_1 : List Int))), (1, (Enc.enc (s2_2 : List Int))), (4, (.int .i64 0)), (9, (Enc.enc (s1_1 : List Int))), (10, (.int .i64 (s1_1.length : Int))), (11, (.int .i64 (w64 (t11_6 + 1))))] ⟨h0, h1, h4, h9, h10, rfl⟩ ?_
          rintro s ⟨h0, h1, h4, h9, h10, h11⟩
          refine .nlp ?_
          exact ih (w64 (t11_6 + 1)) _ ⟨h0, h1, h4, h9, h10, h11⟩ h
    · refine .exit ?_
      refine .esq ?_
      refine .elp ?_
      refine .ebk ?_
      refine .nsq ?_
      refine .seq ?_
      refine .seq ?_
      refine run_reg ?_
      refine e_end ?_
      refine g_v1 (t := 0) (u := (Enc.enc (s1_1 : List Int))) (Enc.enc (s1_1 : List Int)) h0 rfl rfl ?_
      refine g_v (.int .i64 (s1_1.length : Int)) (ev_len (xs := s1_1) rfl) ?_
      refine g_v1 (t := 1) (u := (Enc.enc (s2_2 : List Int))) (Enc.enc (s2_2 : List Int)) h1 rfl rfl ?_
      refine g_v (.int .i64 (s2_2.length : Int)) (ev_len (xs := s2_2) rfl) ?_
      refine g_v2 (t1 := 32) (t2 := 34) (u1 := (.int .i64 (s1_1.length : Int))) (u2 := (.int .i64 (s2_2.length : Int))) (.bool (decide ((s1_1.length : Int) < (s2_2.length : Int)))) rfl rfl rfl rfl ?_
      refine g_end ?_
      refine e_end ?_
      refine renew [(4, (.int .i64 0)), (35, (.bool (decide ((s1_1.length : Int) < (s2_2.length : Int)))))] ⟨h4, rfl⟩ ?_
      rintro s ⟨h4, h35⟩
      refine .nsq ?_
      refine run_cond (t := decide ((s1_1.length : Int) < (s2_2.length : Int))) h35 h (fun h => ?_) (fun h => ?_)
      · refine .seq ?_
        refine run_reg ?_
        refine e_end ?_
        refine g_v0 (.int .i64 (-1)) rfl rfl ?_
        refine g_end ?_
        refine e_end ?_
        refine renew [(4, (.int .i64 (-1)))] rfl ?_
        rintro s h4
        refine .nsq ?_
        refine .ret ?_
        have hr := Option.some.inj h
        subst hr
        exact rrA (res_tmp h4) rfl
      · refine .skip ?_
        refine .nsq ?_
        refine .seq ?_
        refine run_reg ?_
        refine e_end ?_
        refine g_v0 (.int .i64 0) rfl rfl ?_
        refine g_end ?_
        refine e_end ?_
        refine renew [(4, (.int .i64 0))] rfl ?_
        rintro s h4
        refine .nsq ?_
        refine .ret ?_
        have hr := Option.some.inj h
        subst hr
        exact rrA (res_tmp h4) rfl
def slices_Compare (F : Nat) (s1_1 : (List Int)) (s2_2 : (List Int)) : Option Int :=
  slices_Compare_l1 F s1_1 s2_2 F 0
theorem t101 (H : H101 D σ F) (s1_1 : (List Int)) (s2_2 : (List Int)) (s : Nat → V) (hs : Facts [(0, (Enc.enc (s1_1 : List Int))), (1, (Enc.enc (s2_2 : List Int)))] s) (h : slices_Compare F s1_1 s2_2 = some r) : Run D σ (R101 r) (.run A101 []) s := by
  unfold slices_Compare at h
  obtain ⟨h0, h1⟩ := hs
  refine .seq ?_
  refine run_reg ?_
  refine e_end ?_
  refine g_v0 (.int .i64 0) rfl rfl ?_
  refine g_end ?_
  refine e_end ?_
  refine renew [(0, (Enc.enc (s1_1 : List Int))), (1, (Enc.enc (s2_2 : List Int))), (4, (.int .i64 0))] ⟨h0, h1, rfl⟩ ?_
  rintro s ⟨h0, h1, h4⟩
  refine .nsq ?_
  refine .seq ?_
  refine .seq ?_
  refine run_reg ?_
  refine e_end ?_
  refine g_v1 (t := 0) (u := (Enc.enc (s1_1 : List Int))) (Enc.enc (s1_1 : List Int)) h0 rfl rfl ?_
  refine g_v (.int .i64 (s1_1.length : Int)) (ev_len (xs := s1_1) rfl) ?_
  refine g_v0 (.int .i64 0) rfl rfl ?_
  refine g_end ?_
  refine e_end ?_
  refine renew [(0, (Enc.enc (s1_1 : List Int))), (1, (Enc.enc (s2_2 : List Int))), (4, (.int .i64 0)), (9, (Enc.enc (s1_1 : List Int))), (10, (.int .i64 (s1_1.length : Int))), (11, (.int .i64 0))] ⟨h0, h1, h4, rfl, rfl, rfl⟩ ?_
  rintro s ⟨h0, h1, h4, h9, h10, h11⟩
  refine .nsq ?_
  refine .block ?_
  refine .loop ?_
  exact t_f101_l1 H s1_1 s2_2 F 0 _ ⟨h0, h1, h4, h9, h10, h11⟩ h
end
def e101 (F : Nat) : Ent := ⟨101, da (fun (x : ((List Int) × (List Int) × Unit)) => slices_Compare F x.1 x.2.1) (fun (r : Int) => (Enc.enc (r : Int))), 0, false, selF []⟩
theorem p101 {F : Nat} {x0 : (List Int)} {x1 : (List Int)} {r : Int} (h : slices_Compare F x0 x1 = some r) : (e101 F).den [Enc.enc x0, Enc.enc x1] = some (Enc.enc (r : Int)) := da_put (f := fun (x : ((List Int) × (List Int) × Unit)) => slices_Compare F x.1 x.2.1) (t := fun (r : Int) => (Enc.enc (r : Int))) (x0, x1, ()) h
theorem o101 {D : Den} {σ : Sig} {F : Nat} (hF : Fits2 Try.prog D σ) (H : H101 D σ F) : (e101 F).Ok Try.prog := by
  refine ok_of (f := 101) (show unk 101 = 101 from rfl) (fun args r h => ?_) ⟨Try.f101, Try.func101, rfl, rfl⟩
  obtain ⟨⟨x0, x1, _⟩, y, rfl, hy, rfl⟩ := da_open h
  exact contract_run hF (by kernel_rfl) Try.func101 rfl c101 (show 2 ≤ Try.f101.ntmps by decide) (t101 H x0 x1 _ ⟨rfl, rfl⟩ hy)
/- loop.example/g01109/impl.IsGraph -/
def A51_5 : AC := (.cond (.t 48) (.seq (.reg [] [(.mk (some 2) none false (.v (.mov (.k (.bool false)))))] []) .ret) .skip)
def A51_4 : AC := (.seq (.reg [] [(.mk (some 17) none false (.v (.idxA (.t 4) (.k (.int .i64 (.ofNat 0))) 2 1))), (.mk (some 18) none false (.v (.load .s (.t 17)))), (.mk (some 19) none false (.v (.bin .lss (.t 18) (.k (.int .i64 (.ofNat 0)))))), (.mk (some 20) none false (.v (.mov (.t 19)))), (.mk (some 21) (some (20, false)) false (.v (.idxA (.t 4) (.k (.int .i64 (.ofNat 0))) 2 1))), (.mk (some 22) (some (20, false)) false (.v (.load .s (.t 21)))), (.mk (some 23) (some (20, false)) false (.v (.idxA (.t 4) (.k (.int .i64 (.ofNat 1))) 2 1))), (.mk (some 24) (some (20, false)) false (.v (.load .s (.t 23)))), (.mk (some 25) (some (20, false)) false (.v (.bin .geq (.t 22) (.t 24)))), (.mk (some 26) none false (.v (.pick (.t 20) (.k (.bool true)) (.t 25)))), (.mk (some 27) none false (.v (.mov (.t 26)))), (.mk (some 28) (some (27, false)) false (.v (.idxA (.t 4) (.k (.int .i64 (.ofNat 1))) 2 1))), (.mk (some 29) (some (27, false)) false (.v (.load .s (.t 28)))), (.mk (some 30) (some (27, false)) false (.v (.fld (.t 1) 0 0))), (.mk (some 31) (some (27, false)) false (.v (.load .s (.t 30)))), (.mk (some 32) (some (27, false)) false (.v (.bin .geq (.t 29) (.t 31)))), (.mk (some 33) none false (.v (.pick (.t 27) (.k (.bool true)) (.t 32)))), (.mk (some 34) none false (.v (.mov (.t 33)))), (.mk (some 35) (some (34, false)) false (.v (.mov (.t 3)))), (.mk (some 36) (some (34, false)) false (.v (.bin .gtr (.t 35) (.k (.int .i64 (.ofNat 0)))))), (.mk (some 37) (some (34, false)) false (.v (.mov (.t 36)))), (.mk (some 38) (some (37, true)) false (.v (.fld (.t 1) 1 1))), (.mk (some 39) (some (37, true)) false (.v (.load .p (.t 38)))), (.mk (some 40) (some (37, true)) false (.v (.mov (.t 3)))), (.mk (some 41) (some (37, true)) false (.v (.bin .sub (.t 40) (.k (.int .i64 (.ofNat 1)))))), (.mk (some 42) (some (37, true)) false (.v (.idx (.t 39) (.t 41) 2))), (.mk (some 43) (some (37, true)) false (.v (.sliceA (.t 42) 2 .s))), (.mk (some 44) (some (37, true)) false (.v (.sliceA (.t 4) 2 .s))), (.mk (some 45) (some (37, true)) false (.call (.k (.fn 101 [] [])) [(.t 43), (.t 44)])), (.mk (some 46) (some (37, true)) false (.v (.bin .geq (.t 45) (.k (.int .i64 (.ofNat 0)))))), (.mk (some 47) (some (34, false)) false (.v (.pick (.t 37) (.t 46) (.k (.bool false))))), (.mk (some 48) none false (.v (.pick (.t 34) (.k (.bool true)) (.t 47))))] []) A51_5)
def A51_6 : AC := (.reg [] [(.mk (some 49) none false (.v (.bin .add (.t 12) (.k (.int .i64 (.ofNat 1)))))), (.mk (some 12) none false (.v (.mov (.t 49))))] [])
def A51_3 : AC := (.seq (.block 1 (.seq (.reg [.clr [4]] [(.mk (some 14) none false (.v (.mov (.t 12)))), (.mk (some 15) none false (.v (.idx (.t 10) (.t 12) 2))), (.mk (some 16) none false (.v (.load (.ag [.s, .s]) (.t 15)))), (.mk (some 4) none false (.alloc (.agg [(.int .i64 (.ofNat 0)), (.int .i64 (.ofNat 0))]))), (.mk (some 3) none false (.v (.mov (.t 14)))), (.mk none none false (.store (.ag [.s, .s]) (.t 4) (.t 16)))] []) A51_4)) A51_6)
def A51_2 : AC := (.seq (.cond (.t 13) .skip (.exit 0)) A51_3)
def A51_1 : AC := (.seq (.reg [] [(.mk (some 13) none false (.v (.bin .lss (.t 12) (.t 11))))] []) A51_2)
def A51_7 : AC := (.seq (.reg [] [(.mk (some 2) none false (.v (.mov (.k (.bool true)))))] []) .ret)
def A51_9 : AC := (.cond (.t 8) (.seq (.reg [] [(.mk (some 2) none false (.v (.mov (.k (.bool false)))))] []) .ret) .skip)
def A51_11 : AC := (.block 0 (.loop A51_1))
def A51_10 : AC := (.seq (.seq (.reg [] [(.mk (some 9) none false (.v (.fld (.t 1) 1 1))), (.mk (some 10) none false (.v (.load .p (.t 9)))), (.mk (some 11) none false (.v (.len (.t 10)))), (.mk (some 12) none false (.v (.mov (.k (.int .i64 (.ofNat 0))))))] []) A51_11) A51_7)
def A51_8 : AC := (.seq (.seq (.reg [] [(.mk (some 5) none false (.v (.fld (.t 1) 0 0))), (.mk (some 6) none false (.v (.load .s (.t 5)))), (.mk (some 7) none false (.call (.k (.fn 100 [] [])) [(.t 6), (.k (.int .i64 (.ofNat 0))), (.k (.int .i64 (.ofNat 8)))])), (.mk (some 8) none false (.v (.un .not (.t 7))))] []) A51_9) A51_10)
def A51 : AC := (.seq (.reg [.clr [1]] [(.mk (some 1) none false (.box (.t 0))), (.mk (some 2) none false (.v (.mov (.k (.bool false)))))] []) A51_8)
def an51 : List An := [{ id := 0, pre := [.clr [1]], ep := [], lin := [], sp := [] }, { id := 5, pre := [.clr [4]], ep := [], lin := [], sp := [] }]
theorem c51 : cC Try.prog Try.f51.ntmps an51 (Try.f51.body.getD .skip) = some A51 := by kernel_rfl
structure H51 (D : Den) (σ : Sig) (F : Nat) : Prop where
  c100 : ∀ (x0 : Int) (x1 : Int) (x2 : Int) r, i_within F x0 x1 x2 = some r → D 100 [Enc.enc x0, Enc.enc x1, Enc.enc x2] = some (Enc.enc (r : Bool))
  g100 : σ 100 = some (0, false)
  c101 : ∀ (x0 : (List Int)) (x1 : (List Int)) r, slices_Compare F x0 x1 = some r → D 101 [Enc.enc x0, Enc.enc x1] = some (Enc.enc (r : Int))
  g101 : σ 101 = some (0, false)
abbrev R51 (r : Bool) : (Nat → V) → Prop := RR Try.prog [.tmp 2] 0 false (Enc.enc (r : Bool))
section
variable {D : Den} {σ : Sig} {F : Nat} {r : Bool}
def i_IsGraph_j1 (F : Nat) (g_1 : (Int × (List (Int × Int)))) (t12_9 : Int) (c1 : Int → Option Bool) (t48_19 : Bool) : Option Bool :=
  bif t48_19 then
    some false
  else
    c1 (w64 (t12_9 + 1))
theorem t_f51_j1 (H : H51 D σ F) (g_1 : (Int × (List (Int × Int)))) (t12_9 : Int) (c1 : Int → Option Bool) (Hc1 : ∀ (t12_9 : Int) (s : Nat → V), Facts [(1, (.ref (.bx 1) 0 [] (.agg [(.int .i64 g_1.1), (Enc.enc (g_1.2 : List (Int × Int)))]))), (2, (.bool false)), (10, (Enc.enc (g_1.2 : List (Int × Int)))), (11, (.int .i64 (g_1.2.length : Int))), (12, (.int .i64 t12_9))] s → c1 t12_9 = some r → Run D σ (R51 r) (.run A51_1 [.lp A51_1, .bk 0, .sq A51_7]) s) (t48_19 : Bool) (s : Nat → V) (hs : Facts [(1, (.ref (.bx 1) 0 [] (.agg [(.int .i64 g_1.1), (Enc.enc (g_1.2 : List (Int × Int)))]))), (2, (.bool false)), (10, (Enc.enc (g_1.2 : List (Int × Int)))), (11, (.int .i64 (g_1.2.length : Int))), (12, (.int .i64 t12_9)), (48, (.bool t48_19))] s) (h : i_IsGraph_j1 F g_1 t12_9 c1 t48_19 = some r) : Run D σ (R51 r) (.nrm [.sq A51_5, .bk 1, .sq A51_6, .lp A51_1, .bk 0, .sq A51_7]) s := by
  unfold i_IsGraph_j1 at h
  obtain ⟨h1, h2, h10, h11, h12, h48⟩ := hs
  refine .nsq ?_
  refine run_cond (t := t48_19) h48 h (fun h => ?_) (fun h => ?_)
  · refine .seq ?_
    refine run_reg ?_
    refine e_end ?_
    refine g_v0 (.bool false) rfl rfl ?_
    refine g_end ?_
    refine e_end ?_
    refine renew [(1, (.ref (.bx 1) 0 [] (.agg [(.int .i64 g_1.1), (Enc.enc (g_1.2 : List (Int × Int)))]))), (2, (.bool false)), (10, (Enc.enc (g_1.2 : List (Int × Int)))), (11, (.int .i64 (g_1.2.length : Int))), (12, (.int .i64 t12_9))] ⟨h1, rfl, h10, h11, h12⟩ ?_
    rintro s ⟨h1, h2, h10, h11, h12⟩
    refine .nsq ?_
    refine .ret ?_
    have hr := Option.some.inj h
    subst hr
    exact rrA (res_tmp h2) rfl
  · refine .skip ?_
    refine .nbk ?_
    refine .nsq ?_
    refine run_reg ?_
    refine e_end ?_
    refine g_v1 (t := 12) (u := (.int .i64 t12_9)) (.int .i64 (w64 (t12_9 + 1))) h12 rfl rfl ?_
    refine g_v1 (t := 49) (u := (.int .i64 (w64 (t12_9 + 1)))) (.int .i64 (w64 (t12_9 + 1))) rfl rfl rfl ?_
    refine g_end ?_
    refine e_end ?_
    refine renew [(1, (.ref (.bx 1) 0 [] (.agg [(.int .i64 g_1.1), (Enc.enc (g_1.2 : List (Int × Int)))]))), (2, (.bool false)), (10, (Enc.enc (g_1.2 : List (Int × Int)))), (11, (.int .i64 (g_1.2.length : Int))), (12, (.int .i64 (w64 (t12_9 + 1))))] ⟨h1, h2, h10, h11, rfl⟩ ?_
    rintro s ⟨h1, h2, h10, h11, h12⟩
    refine .nlp ?_
    exact Hc1 (w64 (t12_9 + 1)) _ ⟨h1, h2, h10, h11, h12⟩ h
def i_IsGraph_l1 (F : Nat) (g_1 : (Int × (List (Int × Int))))  : Nat → Int → Option Bool
  | 0, _ => none
  | k + 1, t12_9 =>
    bif decide (t12_9 < (g_1.2.length : Int)) then
      (idx g_1.2 t12_9).bind fun e_16 =>
      bif decide (e_16.1 < 0) then
        i_IsGraph_j1 F g_1 t12_9 (i_IsGraph_l1 F g_1 k) true
      else
        bif decide (e_16.1 ≥ e_16.2) then
          i_IsGraph_j1 F g_1 t12_9 (i_IsGraph_l1 F g_1 k) true
        else
          bif decide (e_16.2 ≥ g_1.1) then
            i_IsGraph_j1 F g_1 t12_9 (i_IsGraph_l1 F g_1 k) true
          else
            bif decide (t12_9 > 0) then
              (idx g_1.2 (w64 (t12_9 - 1))).bind fun e_20 =>
              (slices_Compare F [e_20.1, e_20.2] [e_16.1, e_16.2]).bind fun r_21 =>
              i_IsGraph_j1 F g_1 t12_9 (i_IsGraph_l1 F g_1 k) (decide (r_21 ≥ 0))
            else
              i_IsGraph_j1 F g_1 t12_9 (i_IsGraph_l1 F g_1 k) false
    else
      some true
theorem t_f51_l1 (H : H51 D σ F) (g_1 : (Int × (List (Int × Int))))  : ∀ (k : Nat) (t12_9 : Int) (s : Nat → V), Facts [(1, (.ref (.bx 1) 0 [] (.agg [(.int .i64 g_1.1), (Enc.enc (g_1.2 : List (Int × Int)))]))), (2, (.bool false)), (10, (Enc.enc (g_1.2 : List (Int × Int)))), (11, (.int .i64 (g_1.2.length : Int))), (12, (.int .i64 t12_9))] s → i_IsGraph_l1 F g_1 k t12_9 = some r → Run D σ (R51 r) (.run A51_1 [.lp A51_1, .bk 0, .sq A51_7]) s := by
  intro k
  induction k with
  | zero => intro t12_9 s _ h; exact nomatch (h : (none : Option _) = some r)
  | succ k ih =>
    intro t12_9 s hs h
    rw [i_IsGraph_l1] at h
    obtain ⟨h1, h2, h10, h11, h12⟩ := hs
    refine .seq ?_
    refine run_reg ?_
    refine e_end ?_
    refine g_v2 (t1 := 12) (t2 := 11) (u1 := (.int .i64 t12_9)) (u2 := (.int .i64 (g_1.2.length : Int))) (.bool (decide (t12_9 < (g_1.2.length : Int)))) h12 h11 rfl rfl ?_
    refine g_end ?_
    refine e_end ?_
    refine renew [(1, (.ref (.bx 1) 0 [] (.agg [(.int .i64 g_1.1), (Enc.enc (g_1.2 : List (Int × Int)))]))), (2, (.bool false)), (10, (Enc.enc (g_1.2 : List (Int × Int)))), (11, (.int .i64 (g_1.2.length : Int))), (12, (.int .i64 t12_9)), (13, (.bool (decide (t12_9 < (g_1.2.length : Int)))))] ⟨h1, h2, h10, h11, h12, rfl⟩ ?_
    rintro s ⟨h1, h2, h10, h11, h12, h13⟩
    refine .nsq ?_
    refine .seq ?_
    refine run_cond (t := decide (t12_9 < (g_1.2.length : Int))) h13 h (fun h => ?_) (fun h => ?_)
    · refine .skip ?_
      refine .nsq ?_
      refine .seq ?_
      refine .block ?_
      refine .seq ?_
      refine run_reg ?_
      refine e_clr ?_
      refine e_end ?_
      refine g_v1 (t := 12) (u := (.int .i64 t12_9)) (.int .i64 t12_9) (keep_clear (s := s) (pk := [4]) h12 rfl rfl) rfl rfl ?_
      obtain ⟨e_16, E_e_16, h⟩ := bind_some h
      refine g_v (.ref .sh 0 [] (.agg [(.int .i64 e_16.1), (.int .i64 e_16.2)])) (ev_idx (t := .sh) (lo := 0) (xs := g_1.2) (keep_clear (s := s) (pk := [4]) h10 rfl (Enc.map_enc _ (g_1.2 : List (Int × Int)))) (keep_clear (s := s) (pk := [4]) h12 rfl rfl) E_e_16 rfl rfl) ?_
      refine g_v1 (t := 15) (u := (.ref .sh 0 [] (.agg [(.int .i64 e_16.1), (.int .i64 e_16.2)]))) (.agg [(.int .i64 e_16.1), (.int .i64 e_16.2)]) rfl rfl rfl ?_
      refine g_alloc (gone_clear (s := s) (pk := [4]) (t := 4) rfl) ?_
      refine g_v1 (t := 14) (u := (.int .i64 t12_9)) (.int .i64 t12_9) rfl rfl rfl ?_
      refine g_store (.agg [(.int .i64 e_16.1), (.int .i64 e_16.2)]) (rd_of rfl rfl) (rd_of rfl rfl) (by refine ⟨by decide, by decide, rfl, rfl, rfl, ?_⟩; first | rfl | simp [V.toks, V.tokss, Enc.toks_enc]) ?_
      refine g_end ?_
      refine e_end ?_
      refine renew [(1, (.ref (.bx 1) 0 [] (.agg [(.int .i64 g_1.1), (Enc.enc (g_1.2 : List (Int × Int)))]))), (2, (.bool false)), (3, (.int .i64 t12_9)), (4, (.ref (.bx 4) 0 [] (.agg [(.int .i64 e_16.1), (.int .i64 e_16.2)]))), (10, (Enc.enc (g_1.2 : List (Int × Int)))), (11, (.int .i64 (g_1.2.length : Int))), (12, (.int .i64 t12_9))] ⟨(keep_mut (keep_clear (s := s) (pk := [4]) h1 rfl (map_bx rfl (map_agg (maps_cons rfl (maps_cons (Enc.map_enc _ (g_1.2 : List (Int × Int))) maps_nil))))) (mut_ref_ne rfl rfl (mut_agg (muts_cons rfl (muts_cons (Enc.mut_enc _ _ _ _ (g_1.2 : List (Int × Int))) rfl))))), (keep_mut (keep_clear (s := s) (pk := [4]) h2 rfl rfl) rfl), (keep_mut rfl rfl), (keep_mut rfl rfl), (keep_mut (keep_clear (s := s) (pk := [4]) h10 rfl (Enc.map_enc _ (g_1.2 : List (Int × Int)))) (Enc.mut_enc _ _ _ _ (g_1.2 : List (Int × Int)))), (keep_mut (keep_clear (s := s) (pk := [4]) h11 rfl rfl) rfl), (keep_mut (keep_clear (s := s) (pk := [4]) h12 rfl rfl) rfl)⟩ ?_
      rintro s ⟨h1, h2, h3, h4, h10, h11, h12⟩
      refine .nsq ?_
      refine .seq ?_
      refine run_reg ?_
      refine e_end ?_
      refine g_v1 (t := 4) (u := (.ref (.bx 4) 0 [] (.agg [(.int .i64 e_16.1), (.int .i64 e_16.2)]))) (.ref (.bx 4) 0 [0] (.int .i64 e_16.1)) h4 rfl rfl ?_
      refine g_v1 (t := 17) (u := (.ref (.bx 4) 0 [0] (.int .i64 e_16.1))) (.int .i64 e_16.1) rfl rfl rfl ?_
      refine g_v1 (t := 18) (u := (.int .i64 e_16.1)) (.bool (decide (e_16.1 < 0))) rfl rfl rfl ?_
      refine g_v1 (t := 19) (u := (.bool (decide (e_16.1 < 0)))) (.bool (decide (e_16.1 < 0))) rfl rfl rfl ?_
      refine split_on (c := decide (e_16.1 < 0)) h (fun hg4 h => ?_) (fun hg4 h => ?_)
      · refine g_no (Eq.trans (b := .bool (decide (e_16.1 < 0))) rfl (congrArg V.bool hg4)) ?_
        refine g_no (Eq.trans (b := .bool (decide (e_16.1 < 0))) rfl (congrArg V.bool hg4)) ?_
        refine g_no (Eq.trans (b := .bool (decide (e_16.1 < 0))) rfl (congrArg V.bool hg4)) ?_
        refine g_no (Eq.trans (b := .bool (decide (e_16.1 < 0))) rfl (congrArg V.bool hg4)) ?_
        refine g_no (Eq.trans (b := .bool (decide (e_16.1 < 0))) rfl (congrArg V.bool hg4)) ?_
        refine g_v2 (t1 := 20) (t2 := 25) (u1 := (.bool true)) (u2 := (.tup [])) (.bool true) (Eq.trans (b := .bool (decide (e_16.1 < 0))) rfl (congrArg V.bool hg4)) rfl rfl rfl ?_
        refine g_v1 (t := 26) (u := (.bool true)) (.bool true) rfl rfl rfl ?_
        refine g_no rfl ?_
        refine g_no rfl ?_
        refine g_no rfl ?_
        refine g_no rfl ?_
        refine g_no rfl ?_
        refine g_v2 (t1 := 27) (t2 := 32) (u1 := (.bool true)) (u2 := (.tup [])) (.bool true) rfl rfl rfl rfl ?_
        refine g_v1 (t := 33) (u := (.bool true)) (.bool true) rfl rfl rfl ?_
        refine g_no rfl ?_
        refine g_no rfl ?_
        refine g_no rfl ?_
        refine g_skip rfl ?_
        refine g_skip rfl ?_
        refine g_skip rfl ?_
        refine g_skip rfl ?_
        refine g_skip rfl ?_
        refine g_skip rfl ?_
        refine g_skip rfl ?_
        refine g_skip rfl ?_
        refine g_skip rfl ?_
        refine g_no rfl ?_
        refine g_v2 (t1 := 34) (t2 := 47) (u1 := (.bool true)) (u2 := (.tup [])) (.bool true) rfl rfl rfl rfl ?_
        refine g_end ?_
        refine e_end ?_
        refine renew [(1, (.ref (.bx 1) 0 [] (.agg [(.int .i64 g_1.1), (Enc.enc (g_1.2 : List (Int × Int)))]))), (2, (.bool false)), (10, (Enc.enc (g_1.2 : List (Int × Int)))), (11, (.int .i64 (g_1.2.length : Int))), (12, (.int .i64 t12_9)), (48, (.bool true))] ⟨h1, h2, h10, h11, h12, rfl⟩ ?_
        rintro s ⟨h1, h2, h10, h11, h12, h48⟩
        exact t_f51_j1 H g_1 t12_9 (i_IsGraph_l1 F g_1 k) ih true _ ⟨h1, h2, h10, h11, h12, h48⟩ h
      · refine g_yes (Eq.trans (b := .bool (decide (e_16.1 < 0))) rfl (congrArg V.bool hg4)) (g_v1 (t := 4) (u := (.ref (.bx 4) 0 [] (.agg [(.int .i64 e_16.1), (.int .i64 e_16.2)]))) (.ref (.bx 4) 0 [0] (.int .i64 e_16.1)) h4 rfl rfl ?_)
        refine g_yes (Eq.trans (b := .bool (decide (e_16.1 < 0))) rfl (congrArg V.bool hg4)) (g_v1 (t := 21) (u := (.ref (.bx 4) 0 [0] (.int .i64 e_16.1))) (.int .i64 e_16.1) rfl rfl rfl ?_)
        refine g_yes (Eq.trans (b := .bool (decide (e_16.1 < 0))) rfl (congrArg V.bool hg4)) (g_v1 (t := 4) (u := (.ref (.bx 4) 0 [] (.agg [(.int .i64 e_16.1), (.int .i64 e_16.2)]))) (.ref (.bx 4) 0 [1] (.int .i64 e_16.2)) h4 rfl rfl ?_)
        refine g_yes (Eq.trans (b := .bool (decide (e_16.1 < 0))) rfl (congrArg V.bool hg4)) (g_v1 (t := 23) (u := (.ref (.bx 4) 0 [1] (.int .i64 e_16.2))) (.int .i64 e_16.2) rfl rfl rfl ?_)
        refine g_yes (Eq.trans (b := .bool (decide (e_16.1 < 0))) rfl (congrArg V.bool hg4)) (g_v2 (t1 := 22) (t2 := 24) (u1 := (.int .i64 e_16.1)) (u2 := (.int .i64 e_16.2)) (.bool (decide (e_16.1 ≥ e_16.2))) rfl rfl rfl rfl ?_)
        refine g_v2 (t1 := 20) (t2 := 25) (u1 := (.bool false)) (u2 := (.bool (decide (e_16.1 ≥ e_16.2)))) (.bool (decide (e_16.1 ≥ e_16.2))) (Eq.trans (b := .bool (decide (e_16.1 < 0))) rfl (congrArg V.bool hg4)) rfl rfl rfl ?_
        refine g_v1 (t := 26) (u := (.bool (decide (e_16.1 ≥ e_16.2)))) (.bool (decide (e_16.1 ≥ e_16.2))) rfl rfl rfl ?_
        refine split_on (c := decide (e_16.1 ≥ e_16.2)) h (fun hg11 h => ?_) (fun hg11 h => ?_)
        · refine g_no (Eq.trans (b := .bool (decide (e_16.1 ≥ e_16.2))) rfl (congrArg V.bool hg11)) ?_
          refine g_no (Eq.trans (b := .bool (decide (e_16.1 ≥ e_16.2))) rfl (congrArg V.bool hg11)) ?_
          refine g_no (Eq.trans (b := .bool (decide (e_16.1 ≥ e_16.2))) rfl (congrArg V.bool hg11)) ?_
          refine g_no (Eq.trans (b := .bool (decide (e_16.1 ≥ e_16.2))) rfl (congrArg V.bool hg11)) ?_
          refine g_no (Eq.trans (b := .bool (decide (e_16.1 ≥ e_16.2))) rfl (congrArg V.bool hg11)) ?_
          refine g_v2 (t1 := 27) (t2 := 32) (u1 := (.bool true)) (u2 := (.tup [])) (.bool true) (Eq.trans (b := .bool (decide (e_16.1 ≥ e_16.2))) rfl (congrArg V.bool hg11)) rfl rfl rfl ?_
          refine g_v1 (t := 33) (u := (.bool true)) (.bool true) rfl rfl rfl ?_
          refine g_no rfl ?_
          refine g_no rfl ?_
          refine g_no rfl ?_
          refine g_skip rfl ?_
          refine g_skip rfl ?_
          refine g_skip rfl ?_
          refine g_skip rfl ?_
          refine g_skip rfl ?_
          refine g_skip rfl ?_
          refine g_skip rfl ?_
          refine g_skip rfl ?_
          refine g_skip rfl ?_
          refine g_no rfl ?_
          refine g_v2 (t1 := 34) (t2 := 47) (u1 := (.bool true)) (u2 := (.tup [])) (.bool true) rfl rfl rfl rfl ?_
          refine g_end ?_
          refine e_end ?_
          refine renew [(1, (.ref (.bx 1) 0 [] (.agg [(.int .i64 g_1.1), (Enc.enc (g_1.2 : List (Int × Int)))]))), (2, (.bool false)), (10, (Enc.enc (g_1.2 : List (Int × Int)))), (11, (.int .i64 (g_1.2.length : Int))), (12, (.int .i64 t12_9)), (48, (.bool true))] ⟨h1, h2, h10, h11, h12, rfl⟩ ?_
          rintro s ⟨h1, h2, h10, h11, h12, h48⟩
          exact t_f51_j1 H g_1 t12_9 (i_IsGraph_l1 F g_1 k) ih true _ ⟨h1, h2, h10, h11, h12, h48⟩ h
        · refine g_yes (Eq.trans (b := .bool (decide (e_16.1 ≥ e_16.2))) rfl (congrArg V.bool hg11)) (g_v1 (t := 4) (u := (.ref (.bx 4) 0 [] (.agg [(.int .i64 e_16.1), (.int .i64 e_16.2)]))) (.ref (.bx 4) 0 [1] (.int .i64 e_16.2)) h4 rfl rfl ?_)
          refine g_yes (Eq.trans (b := .bool (decide (e_16.1 ≥ e_16.2))) rfl (congrArg V.bool hg11)) (g_v1 (t := 28) (u := (.ref (.bx 4) 0 [1] (.int .i64 e_16.2))) (.int .i64 e_16.2) rfl rfl rfl ?_)
          refine g_yes (Eq.trans (b := .bool (decide (e_16.1 ≥ e_16.2))) rfl (congrArg V.bool hg11)) (g_v1 (t := 1) (u := (.ref (.bx 1) 0 [] (.agg [(.int .i64 g_1.1), (Enc.enc (g_1.2 : List (Int × Int)))]))) (.ref (.bx 1) 0 [0] (.int .i64 g_1.1)) h1 rfl rfl ?_)
          refine g_yes (Eq.trans (b := .bool (decide (e_16.1 ≥ e_16.2))) rfl (congrArg V.bool hg11)) (g_v1 (t := 30) (u := (.ref (.bx 1) 0 [0] (.int .i64 g_1.1))) (.int .i64 g_1.1) rfl rfl rfl ?_)
          refine g_yes (Eq.trans (b := .bool (decide (e_16.1 ≥ e_16.2))) rfl (congrArg V.bool hg11)) (g_v2 (t1 := 29) (t2 := 31) (u1 := (.int .i64 e_16.2)) (u2 := (.int .i64 g_1.1)) (.bool (decide (e_16.2 ≥ g_1.1))) rfl rfl rfl rfl ?_)
          refine g_v2 (t1 := 27) (t2 := 32) (u1 := (.bool false)) (u2 := (.bool (decide (e_16.2 ≥ g_1.1)))) (.bool (decide (e_16.2 ≥ g_1.1))) (Eq.trans (b := .bool (decide (e_16.1 ≥ e_16.2))) rfl (congrArg V.bool hg11)) rfl rfl rfl ?_
          refine g_v1 (t := 33) (u := (.bool (decide (e_16.2 ≥ g_1.1)))) (.bool (decide (e_16.2 ≥ g_1.1))) rfl rfl rfl ?_
          refine split_on (c := decide (e_16.2 ≥ g_1.1)) h (fun hg18 h => ?_) (fun hg18 h => ?_)
          · refine g_no (Eq.trans (b := .bool (decide (e_16.2 ≥ g_1.1))) rfl (congrArg V.bool hg18)) ?_
            refine g_no (Eq.trans (b := .bool (decide (e_16.2 ≥ g_1.1))) rfl (congrArg V.bool hg18)) ?_
            refine g_no (Eq.trans (b := .bool (decide (e_16.2 ≥ g_1.1))) rfl (congrArg V.bool hg18)) ?_
            refine g_skip rfl ?_
            refine g_skip rfl ?_
            refine g_skip rfl ?_
            refine g_skip rfl ?_
            refine g_skip rfl ?_
            refine g_skip rfl ?_
            refine g_skip rfl ?_
            refine g_skip rfl ?_
            refine g_skip rfl ?_
            refine g_no (Eq.trans (b := .bool (decide (e_16.2 ≥ g_1.1))) rfl (congrArg V.bool hg18)) ?_
            refine g_v2 (t1 := 34) (t2 := 47) (u1 := (.bool true)) (u2 := (.tup [])) (.bool true) (Eq.trans (b := .bool (decide (e_16.2 ≥ g_1.1))) rfl (congrArg V.bool hg18)) rfl rfl rfl ?_
            refine g_end ?_
            refine e_end ?_
            refine renew [(1, (.ref (.bx 1) 0 [] (.agg [(.int .i64 g_1.1), (Enc.enc (g_1.2 : List (Int × Int)))]))), (2, (.bool false)), (10, (Enc.enc (g_1.2 : List (Int × Int)))), (11, (.int .i64 (g_1.2.length : Int))), (12, (.int .i64 t12_9)), (48, (.bool true))] ⟨h1, h2, h10, h11, h12, rfl⟩ ?_
            rintro s ⟨h1, h2, h10, h11, h12, h48⟩
            exact t_f51_j1 H g_1 t12_9 (i_IsGraph_l1 F g_1 k) ih true _ ⟨h1, h2, h10, h11, h12, h48⟩ h
          · refine g_yes (Eq.trans (b := .bool (decide (e_16.2 ≥ g_1.1))) rfl (congrArg V.bool hg18)) (g_v1 (t := 3) (u := (.int .i64 t12_9)) (.int .i64 t12_9) h3 rfl rfl ?_)
            refine g_yes (Eq.trans (b := .bool (decide (e_16.2 ≥ g_1.1))) rfl (congrArg V.bool hg18)) (g_v1 (t := 35) (u := (.int .i64 t12_9)) (.bool (decide (t12_9 > 0))) rfl rfl rfl ?_)
            refine g_yes (Eq.trans (b := .bool (decide (e_16.2 ≥ g_1.1))) rfl (congrArg V.bool hg18)) (g_v1 (t := 36) (u := (.bool (decide (t12_9 > 0)))) (.bool (decide (t12_9 > 0))) rfl rfl rfl ?_)
            refine split_on (c := decide (t12_9 > 0)) h (fun hg21 h => ?_) (fun hg21 h => ?_)
            · refine g_yes (Eq.trans (b := .bool (decide (t12_9 > 0))) rfl (congrArg V.bool hg21)) (g_v1 (t := 1) (u := (.ref (.bx 1) 0 [] (.agg [(.int .i64 g_1.1), (Enc.enc (g_1.2 : List (Int × Int)))]))) (.ref (.bx 1) 0 [1] (Enc.enc (g_1.2 : List (Int × Int)))) h1 rfl rfl ?_)
              refine g_yes (Eq.trans (b := .bool (decide (t12_9 > 0))) rfl (congrArg V.bool hg21)) (g_v1 (t := 38) (u := (.ref (.bx 1) 0 [1] (Enc.enc (g_1.2 : List (Int × Int))))) (Enc.enc (g_1.2 : List (Int × Int))) rfl rfl rfl ?_)
              refine g_yes (Eq.trans (b := .bool (decide (t12_9 > 0))) rfl (congrArg V.bool hg21)) (g_v1 (t := 3) (u := (.int .i64 t12_9)) (.int .i64 t12_9) h3 rfl rfl ?_)
              refine g_yes (Eq.trans (b := .bool (decide (t12_9 > 0))) rfl (congrArg V.bool hg21)) (g_v1 (t := 40) (u := (.int .i64 t12_9)) (.int .i64 (w64 (t12_9 - 1))) rfl rfl rfl ?_)
              obtain ⟨e_20, E_e_20, h⟩ := bind_some h
              refine g_yes (Eq.trans (b := .bool (decide (t12_9 > 0))) rfl (congrArg V.bool hg21)) (g_v (.ref .sh 0 [] (.agg [(.int .i64 e_20.1), (.int .i64 e_20.2)])) (ev_idx (t := .sh) (lo := 0) (xs := g_1.2) rfl rfl E_e_20 rfl rfl) ?_)
              refine g_yes (Eq.trans (b := .bool (decide (t12_9 > 0))) rfl (congrArg V.bool hg21)) (g_v1 (t := 42) (u := (.ref .sh 0 [] (.agg [(.int .i64 e_20.1), (.int .i64 e_20.2)]))) (Enc.enc ([e_20.1, e_20.2] : List Int)) rfl rfl rfl ?_)
              refine g_yes (Eq.trans (b := .bool (decide (t12_9 > 0))) rfl (congrArg V.bool hg21)) (g_v1 (t := 4) (u := (.ref (.bx 4) 0 [] (.agg [(.int .i64 e_16.1), (.int .i64 e_16.2)]))) (encO (.bx 4) (.of ([e_16.1, e_16.2] : List Int))) h4 rfl rfl ?_)
              obtain ⟨r_21, E_r_21, h⟩ := bind_some h
              refine g_yes (Eq.trans (b := .bool (decide (t12_9 > 0))) rfl (congrArg V.bool hg21)) (g_call (m := 0) (al := false) (r := (Enc.enc (r_21 : Int))) [Enc.enc ([e_20.1, e_20.2] : (List Int)), Enc.enc ([e_16.1, e_16.2] : (List Int))] (ta_cons (v := (Enc.enc ([e_20.1, e_20.2] : List Int))) rfl rfl (Enc.erase_enc ([e_20.1, e_20.2] : (List Int))) (ta_cons (v := (encO (.bx 4) (.of ([e_16.1, e_16.2] : List Int)))) rfl rfl (erase_encO (o := .of [e_16.1, e_16.2])) ta_nil)) (H.c101 _ _ _ E_r_21) H.g101 rfl rfl rfl rfl ?_)
              refine g_yes (Eq.trans (b := .bool (decide (t12_9 > 0))) rfl (congrArg V.bool hg21)) (g_v1 (t := 45) (u := (.int .i64 r_21)) (.bool (decide (r_21 ≥ 0))) rfl rfl rfl ?_)
              refine g_yes (Eq.trans (b := .bool (decide (e_16.2 ≥ g_1.1))) rfl (congrArg V.bool hg18)) (g_v2 (t1 := 37) (t2 := 46) (u1 := (.bool true)) (u2 := (.bool (decide (r_21 ≥ 0)))) (.bool (decide (r_21 ≥ 0))) (Eq.trans (b := .bool (decide (t12_9 > 0))) rfl (congrArg V.bool hg21)) rfl rfl rfl ?_)
              refine g_v2 (t1 := 34) (t2 := 47) (u1 := (.bool false)) (u2 := (.bool (decide (r_21 ≥ 0)))) (.bool (decide (r_21 ≥ 0))) (Eq.trans (b := .bool (decide (e_16.2 ≥ g_1.1))) rfl (congrArg V.bool hg18)) rfl rfl rfl ?_
              refine g_end ?_
              refine e_end ?_
              refine renew [(1, (.ref (.bx 1) 0 [] (.agg [(.int .i64 g_1.1), (Enc.enc (g_1.2 : List (Int × Int)))]))), (2, (.bool false)), (10, (Enc.enc (g_1.2 : List (Int × Int)))), (11, (.int .i64 (g_1.2.length : Int))), (12, (.int .i64 t12_9)), (48, (.bool (decide (r_21 ≥ 0))))] ⟨h1, h2, h10, h11, h12, rfl⟩ ?_
              rintro s ⟨h1, h2, h10, h11, h12, h48⟩
              exact t_f51_j1 H g_1 t12_9 (i_IsGraph_l1 F g_1 k) ih (decide (r_21 ≥ 0)) _ ⟨h1, h2, h10, h11, h12, h48⟩ h
            · refine g_no (Eq.trans (b := .bool (decide (t12_9 > 0))) rfl (congrArg V.bool hg21)) ?_
              refine g_no (Eq.trans (b := .bool (decide (t12_9 > 0))) rfl (congrArg V.bool hg21)) ?_
              refine g_no (Eq.trans (b := .bool (decide (t12_9 > 0))) rfl (congrArg V.bool hg21)) ?_
              refine g_no (Eq.trans (b := .bool (decide (t12_9 > 0))) rfl (congrArg V.bool hg21)) ?_
              refine g_no (Eq.trans (b := .bool (decide (t12_9 > 0))) rfl (congrArg V.bool hg21)) ?_
              refine g_no (Eq.trans (b := .bool (decide (t12_9 > 0))) rfl (congrArg V.bool hg21)) ?_
              refine g_no (Eq.trans (b := .bool (decide (t12_9 > 0))) rfl (congrArg V.bool hg21)) ?_
              refine g_no (Eq.trans (b := .bool (decide (t12_9 > 0))) rfl (congrArg V.bool hg21)) ?_
              refine g_no (Eq.trans (b := .bool (decide (t12_9 > 0))) rfl (congrArg V.bool hg21)) ?_
              refine g_yes (Eq.trans (b := .bool (decide (e_16.2 ≥ g_1.1))) rfl (congrArg V.bool hg18)) (g_v2 (t1 := 37) (t2 := 46) (u1 := (.bool false)) (u2 := (.tup [])) (.bool false) (Eq.trans (b := .bool (decide (t12_9 > 0))) rfl (congrArg V.bool hg21)) rfl rfl rfl ?_)
              refine g_v2 (t1 := 34) (t2 := 47) (u1 := (.bool false)) (u2 := (.bool false)) (.bool false) (Eq.trans (b := .bool (decide (e_16.2 ≥ g_1.1))) rfl (congrArg V.bool hg18)) rfl rfl rfl ?_
              refine g_end ?_
              refine e_end ?_
              refine renew [(1, (.ref (.bx 1) 0 [] (.agg [(.int .i64 g_1.1), (Enc.enc (g_1.2 : List (Int × Int)))]))), (2, (.bool false)), (10, (Enc.enc (g_1.2 : List (Int × Int)))), (11, (.int .i64 (g_1.2.length : Int))), (12, (.int .i64 t12_9)), (48, (.bool false))] ⟨h1, h2, h10, h11, h12, rfl⟩ ?_
              rintro s ⟨h1, h2, h10, h11, h12, h48⟩
              exact t_f51_j1 H g_1 t12_9 (i_IsGraph_l1 F g_1 k) ih false _ ⟨h1, h2, h10, h11, h12, h48⟩ h
    · refine .exit ?_
      refine .esq ?_
      refine .elp ?_
      refine .ebk ?_
      refine .nsq ?_
      refine .seq ?_
      refine run_reg ?_
      refine e_end ?_
      refine g_v0 (.bool true) rfl rfl ?_
      refine g_end ?_
      refine e_end ?_
      refine renew [(2, (.bool true))] rfl ?_
      rintro s h2
      refine .nsq ?_
      refine .ret ?_
      have hr := Option.some.inj h
      subst hr
      exact rrA (res_tmp h2) rfl
def i_IsGraph (F : Nat) (g_1 : (Int × (List (Int × Int)))) : Option Bool :=
  (i_within F g_1.1 0 8).bind fun r_2 =>
  bif (!r_2) then
    some false
  else
    i_IsGraph_l1 F g_1 F 0
theorem t51 (H : H51 D σ F) (g_1 : (Int × (List (Int × Int)))) (s : Nat → V) (hs : Facts [(0, (.agg [(.int .i64 g_1.1), (Enc.enc (g_1.2 : List (Int × Int)))]))] s) (h : i_IsGraph F g_1 = some r) : Run D σ (R51 r) (.run A51 []) s := by
  unfold i_IsGraph at h
  have h0 := hs
  refine .seq ?_
  refine run_reg ?_
  refine e_clr ?_
  refine e_end ?_
  refine g_box (.agg [(.int .i64 g_1.1), (Enc.enc (g_1.2 : List (Int × Int)))]) (rd_of (keep_clear (s := s) (pk := [1]) h0 rfl (map_agg (maps_cons rfl (maps_cons (Enc.map_enc _ (g_1.2 : List (Int × Int))) maps_nil)))) rfl) (gone_clear (s := s) (pk := [1]) (t := 1) rfl) rfl ?_
  refine g_v0 (.bool false) rfl rfl ?_
  refine g_end ?_
  refine e_end ?_
  refine renew [(1, (.ref (.bx 1) 0 [] (.agg [(.int .i64 g_1.1), (Enc.enc (g_1.2 : List (Int × Int)))]))), (2, (.bool false))] ⟨rfl, rfl⟩ ?_
  rintro s ⟨h1, h2⟩
  refine .nsq ?_
  refine .seq ?_
  refine .seq ?_
  refine run_reg ?_
  refine e_end ?_
  refine g_v1 (t := 1) (u := (.ref (.bx 1) 0 [] (.agg [(.int .i64 g_1.1), (Enc.enc (g_1.2 : List (Int × Int)))]))) (.ref (.bx 1) 0 [0] (.int .i64 g_1.1)) h1 rfl rfl ?_
  refine g_v1 (t := 5) (u := (.ref (.bx 1) 0 [0] (.int .i64 g_1.1))) (.int .i64 g_1.1) rfl rfl rfl ?_
  obtain ⟨r_2, E_r_2, h⟩ := bind_some h
  refine g_call (m := 0) (al := false) (r := (Enc.enc (r_2 : Bool))) [Enc.enc (g_1.1 : Int), Enc.enc (0 : Int), Enc.enc (8 : Int)] (ta_cons (v := (.int .i64 g_1.1)) rfl rfl rfl (ta_cons (v := (.int .i64 0)) rfl rfl rfl (ta_cons (v := (.int .i64 8)) rfl rfl rfl ta_nil))) (H.c100 _ _ _ _ E_r_2) H.g100 rfl rfl rfl rfl ?_
  refine g_v1 (t := 7) (u := (.bool r_2)) (.bool (!r_2)) rfl rfl rfl ?_
  refine g_end ?_
  refine e_end ?_
  refine renew [(1, (.ref (.bx 1) 0 [] (.agg [(.int .i64 g_1.1), (Enc.enc (g_1.2 : List (Int × Int)))]))), (2, (.bool false)), (8, (.bool (!r_2)))] ⟨h1, h2, rfl⟩ ?_
  rintro s ⟨h1, h2, h8⟩
  refine .nsq ?_
  refine run_cond (t := (!r_2)) h8 h (fun h => ?_) (fun h => ?_)
  · refine .seq ?_
    refine run_reg ?_
    refine e_end ?_
    refine g_v0 (.bool false) rfl rfl ?_
    refine g_end ?_
    refine e_end ?_
    refine renew [(1, (.ref (.bx 1) 0 [] (.agg [(.int .i64 g_1.1), (Enc.enc (g_1.2 : List (Int × Int)))]))), (2, (.bool false))] ⟨h1, rfl⟩ ?_
    rintro s ⟨h1, h2⟩
    refine .nsq ?_
    refine .ret ?_
    have hr := Option.some.inj h
    subst hr
    exact rrA (res_tmp h2) rfl
  · refine .skip ?_
    refine .nsq ?_
    refine .seq ?_
    refine .seq ?_
    refine run_reg ?_
    refine e_end ?_
    refine g_v1 (t := 1) (u := (.ref (.bx 1) 0 [] (.agg [(.int .i64 g_1.1), (Enc.enc (g_1.2 : List (Int × Int)))]))) (.ref (.bx 1) 0 [1] (Enc.enc (g_1.2 : List (Int × Int)))) h1 rfl rfl ?_
    refine g_v1 (t := 9) (u := (.ref (.bx 1) 0 [1] (Enc.enc (g_1.2 : List (Int × Int))))) (Enc.enc (g_1.2 : List (Int × Int))) rfl rfl rfl ?_
    refine g_v (.int .i64 (g_1.2.length : Int)) (ev_len (xs := g_1.2) rfl) ?_
    refine g_v0 (.int .i64 0) rfl rfl ?_
    refine g_end ?_
    refine e_end ?_
    refine renew [(1, (.ref (.bx 1) 0 [] (.agg [(.int .i64 g_1.1), (Enc.enc (g_1.2 : List (Int × Int)))]))), (2, (.bool false)), (10, (Enc.enc (g_1.2 : List (Int × Int)))), (11, (.int .i64 (g_1.2.length : Int))), (12, (.int .i64 0))] ⟨h1, h2, rfl, rfl, rfl⟩ ?_
    rintro s ⟨h1, h2, h10, h11, h12⟩
    refine .nsq ?_
    refine .block ?_
    refine .loop ?_
    exact t_f51_l1 H g_1 F 0 _ ⟨h1, h2, h10, h11, h12⟩ h
end
def e51 (F : Nat) : Ent := ⟨51, da (fun (x : ((Int × (List (Int × Int))) × Unit)) => i_IsGraph F x.1) (fun (r : Bool) => (Enc.enc (r : Bool))), 0, false, selF []⟩
theorem p51 {F : Nat} {x0 : (Int × (List (Int × Int)))} {r : Bool} (h : i_IsGraph F x0 = some r) : (e51 F).den [Enc.enc x0] = some (Enc.enc (r : Bool)) := da_put (f := fun (x : ((Int × (List (Int × Int))) × Unit)) => i_IsGraph F x.1) (t := fun (r : Bool) => (Enc.enc (r : Bool))) (x0, ()) h
theorem o51 {D : Den} {σ : Sig} {F : Nat} (hF : Fits2 Try.prog D σ) (H : H51 D σ F) : (e51 F).Ok Try.prog := by
  refine ok_of (f := 51) (show unk 51 = 51 from rfl) (fun args r h => ?_) ⟨Try.f51, Try.func51, rfl, rfl⟩
  obtain ⟨⟨x0, _⟩, y, rfl, hy, rfl⟩ := da_open h
  exact contract_run hF (by kernel_rfl) Try.func51 rfl c51 (show 1 ≤ Try.f51.ntmps by decide) (t51 H x0 _ rfl hy)
/- loop.example/g01109/impl.netOf -/
def A52_5 : AC := (.reg [] [(.mk (some 28) none false (.v (.fld (.t 3) 0 0))), (.mk (some 29) none false (.v (.load .p (.t 28)))), (.mk (some 30) none false (.v (.idxA (.t 5) (.k (.int .i64 (.ofNat 1))) 2 1))), (.mk (some 31) none false (.v (.load .s (.t 30)))), (.mk (some 32) none false (.v (.idx (.t 29) (.t 31) 1))), (.mk (some 33) none false (.v (.load .s (.t 32)))), (.mk (some 34) none false (.v (.idxA (.t 5) (.k (.int .i64 (.ofNat 0))) 2 1))), (.mk (some 35) none false (.v (.load .s (.t 34)))), (.mk (some 36) none false (.v (.bin .shl (.k (.int .i64 (.ofNat 1))) (.t 35)))), (.mk (some 37) none false (.v (.bin .or (.t 33) (.t 36)))), (.mk (some 38) none false (.v (.idx (.t 29) (.t 31) 1))), (.mk none none false (.store .s (.t 38) (.t 37)))] [])
def A52_4 : AC := (.seq (.reg [] [(.mk (some 17) none false (.v (.fld (.t 3) 0 0))), (.mk (some 18) none false (.v (.load .p (.t 17)))), (.mk (some 19) none false (.v (.idxA (.t 5) (.k (.int .i64 (.ofNat 0))) 2 1))), (.mk (some 20) none false (.v (.load .s (.t 19)))), (.mk (some 21) none false (.v (.idx (.t 18) (.t 20) 1))), (.mk (some 22) none false (.v (.load .s (.t 21)))), (.mk (some 23) none false (.v (.idxA (.t 5) (.k (.int .i64 (.ofNat 1))) 2 1))), (.mk (some 24) none false (.v (.load .s (.t 23)))), (.mk (some 25) none false (.v (.bin .shl (.k (.int .i64 (.ofNat 1))) (.t 24)))), (.mk (some 26) none false (.v (.bin .or (.t 22) (.t 25)))), (.mk (some 27) none false (.v (.idx (.t 18) (.t 20) 1))), (.mk none none false (.store .s (.t 27) (.t 26)))] []) A52_5)
def A52_6 : AC := (.reg [] [(.mk (some 39) none false (.v (.bin .add (.t 13) (.k (.int .i64 (.ofNat 1)))))), (.mk (some 13) none false (.v (.mov (.t 39))))] [])
def A52_3 : AC := (.seq (.block 1 (.seq (.reg [.clr [5]] [(.mk (some 15) none false (.v (.idx (.t 11) (.t 13) 2))), (.mk (some 16) none false (.v (.load (.ag [.s, .s]) (.t 15)))), (.mk (some 5) none false (.alloc (.agg [(.int .i64 (.ofNat 0)), (.int .i64 (.ofNat 0))]))), (.mk none none false (.store (.ag [.s, .s]) (.t 5) (.t 16)))] []) A52_4)) A52_6)
def A52_2 : AC := (.seq (.cond (.t 14) .skip (.exit 0)) A52_3)
def A52_1 : AC := (.seq (.reg [] [(.mk (some 14) none false (.v (.bin .lss (.t 13) (.t 12))))] []) A52_2)
def A52_7 : AC := (.seq (.reg [] [(.mk (some 40) none false (.v (.load (.ag [.p]) (.t 3)))), (.mk none none false (.store (.ag [.p]) (.t 2) (.t 40)))] []) .ret)
def A52_10 : AC := (.block 0 (.loop A52_1))
def A52_9 : AC := (.seq (.seq (.reg [] [(.mk (some 10) none false (.v (.fld (.t 1) 1 1))), (.mk (some 11) none false (.v (.load .p (.t 10)))), (.mk (some 12) none false (.v (.len (.t 11)))), (.mk (some 13) none false (.v (.mov (.k (.int .i64 (.ofNat 0))))))] []) A52_10) A52_7)
def A52_8 : AC := (.seq (.reg [.clr [8, 3]] [(.mk (some 6) none false (.v (.fld (.t 1) 0 0))), (.mk (some 7) none false (.v (.load .s (.t 6)))), (.mk (some 8) none false (.mk (.t 7) (.int .i64 (.ofNat 0)))), (.mk (some 9) none false (.v (.bld (.agg [(.sl .nl .s 0 [])]) [(0, 0, (.t 8))]))), (.mk (some 3) none false (.alloc (.agg [(.sl .nl .s 0 [])]))), (.mk none none false (.store (.ag [.p]) (.t 3) (.t 9)))] []) A52_9)
def A52 : AC := (.seq (.reg [.clr [1, 2]] [(.mk (some 1) none false (.box (.t 0))), (.mk (some 2) none false (.alloc (.agg [(.sl .nl .s 0 [])])))] []) A52_8)
def an52 : List An := [{ id := 0, pre := [.clr [1, 2]], ep := [], lin := [], sp := [] }, { id := 1, pre := [.clr [8, 3]], ep := [], lin := [], sp := [] }, { id := 4, pre := [.clr [5]], ep := [], lin := [], sp := [] }]
theorem c52 : cC Try.prog Try.f52.ntmps an52 (Try.f52.body.getD .skip) = some A52 := by kernel_rfl
structure H52 (D : Den) (σ : Sig) (F : Nat) : Prop where
  mk ::
abbrev R52 (r : (S1 (List Int))) : (Nat → V) → Prop := RR Try.prog [.cell 2 48] 0 false (Enc.enc (r : (S1 (List Int))))
section
variable {D : Den} {σ : Sig} {F : Nat} {r : (S1 (List Int))}
def i_netOf_l1 (F : Nat) (g_1 : (Int × (List (Int × Int))))  : Nat → (List Int) → Int → Option (S1 (List Int))
  | 0, _, _ => none
  | k + 1, w_10, t13_11 =>
    bif decide (t13_11 < (g_1.2.length : Int)) then
      (idx g_1.2 t13_11).bind fun e_19 =>
      (idx w_10 e_19.1).bind fun e_20 =>
      (shlI .i64 1 e_19.2).bind fun q_21 =>
      (idx w_10 e_19.1).bind fun e_22 =>
      (idx (w_10.set e_19.1.toNat (ior .i64 e_20 q_21)) e_19.2).bind fun e_23 =>
      (shlI .i64 1 e_19.1).bind fun q_24 =>
      (idx (w_10.set e_19.1.toNat (ior .i64 e_20 q_21)) e_19.2).bind fun e_25 =>
      (i_netOf_l1 F g_1 k) ((w_10.set e_19.1.toNat (ior .i64 e_20 q_21)).set e_19.2.toNat (ior .i64 e_23 q_24)) (w64 (t13_11 + 1))
    else
      some (S1.mk w_10)
theorem t_f52_l1 (H : H52 D σ F) (g_1 : (Int × (List (Int × Int))))  : ∀ (k : Nat) (w_10 : (List Int)) (t13_11 : Int) (s : Nat → V), Facts [(2, (.ref (.bx 2) 0 [] (.agg [(.sl .nl (Enc.shp Int) 0 [])]))), (3, (.ref (.bx 3) 0 [] (.agg [(encO (.at 8 []) (.of (w_10 : List Int)))]))), (11, (Enc.enc (g_1.2 : List (Int × Int)))), (12, (.int .i64 (g_1.2.length : Int))), (13, (.int .i64 t13_11))] s → i_netOf_l1 F g_1 k w_10 t13_11 = some r → Run D σ (R52 r) (.run A52_1 [.lp A52_1, .bk 0, .sq A52_7]) s := by
  intro k
  induction k with
  | zero => intro w_10 t13_11 s _ h; exact nomatch (h : (none : Option _) = some r)
  | succ k ih =>
    intro w_10 t13_11 s hs h
    rw [i_netOf_l1] at h
    obtain ⟨h2, h3, h11, h12, h13⟩ := hs
    refine .seq ?_
    refine run_reg ?_
    refine e_end ?_
    refine g_v2 (t1 := 13) (t2 := 12) (u1 := (.int .i64 t13_11)) (u2 := (.int .i64 (g_1.2.length : Int))) (.bool (decide (t13_11 < (g_1.2.length : Int)))) h13 h12 rfl rfl ?_
    refine g_end ?_
    refine e_end ?_
    refine renew [(2, (.ref (.bx 2) 0 [] (.agg [(.sl .nl (Enc.shp Int) 0 [])]))), (3, (.ref (.bx 3) 0 [] (.agg [(encO (.at 8 []) (.of (w_10 : List Int)))]))), (11, (Enc.enc (g_1.2 : List (Int × Int)))), (12, (.int .i64 (g_1.2.length : Int))), (13, (.int .i64 t13_11)), (14, (.bool (decide (t13_11 < (g_1.2.length : Int)))))] ⟨h2, h3, h11, h12, h13, rfl⟩ ?_
    rintro s ⟨h2, h3, h11, h12, h13, h14⟩
    refine .nsq ?_
    refine .seq ?_
    refine run_cond (t := decide (t13_11 < (g_1.2.length : Int))) h14 h (fun h => ?_) (fun h => ?_)
    · refine .skip ?_
      refine .nsq ?_
      refine .seq ?_
      refine .block ?_
      refine .seq ?_
      refine run_reg ?_
      refine e_clr ?_
      refine e_end ?_
      obtain ⟨e_19, E_e_19, h⟩ := bind_some h
      refine g_v (.ref .sh 0 [] (.agg [(.int .i64 e_19.1), (.int .i64 e_19.2)])) (ev_idx (t := .sh) (lo := 0) (xs := g_1.2) (keep_clear (s := s) (pk := [5]) h11 rfl (Enc.map_enc _ (g_1.2 : List (Int × Int)))) (keep_clear (s := s) (pk := [5]) h13 rfl rfl) E_e_19 rfl rfl) ?_
      refine g_v1 (t := 15) (u := (.ref .sh 0 [] (.agg [(.int .i64 e_19.1), (.int .i64 e_19.2)]))) (.agg [(.int .i64 e_19.1), (.int .i64 e_19.2)]) rfl rfl rfl ?_
      refine g_alloc (gone_clear (s := s) (pk := [5]) (t := 5) rfl) ?_
      refine g_store (.agg [(.int .i64 e_19.1), (.int .i64 e_19.2)]) (rd_of rfl rfl) (rd_of rfl rfl) (by refine ⟨by decide, by decide, rfl, rfl, rfl, ?_⟩; first | rfl | simp [V.toks, V.tokss, Enc.toks_enc]) ?_
      refine g_end ?_
      refine e_end ?_
      refine renew [(2, (.ref (.bx 2) 0 [] (.agg [(.sl .nl (Enc.shp Int) 0 [])]))), (3, (.ref (.bx 3) 0 [] (.agg [(encO (.at 8 []) (.of (w_10 : List Int)))]))), (5, (.ref (.bx 5) 0 [] (.agg [(.int .i64 e_19.1), (.int .i64 e_19.2)]))), (11, (Enc.enc (g_1.2 : List (Int × Int)))), (12, (.int .i64 (g_1.2.length : Int))), (13, (.int .i64 t13_11))] ⟨(keep_mut (keep_clear (s := s) (pk := [5]) h2 rfl (map_bx rfl (map_agg (maps_cons rfl maps_nil)))) (mut_ref_ne rfl rfl (mut_agg (muts_cons rfl rfl)))), (keep_mut (keep_clear (s := s) (pk := [5]) h3 rfl (map_bx rfl (map_agg (maps_cons (map_encO (r := 8) (p := []) rfl rfl) maps_nil)))) (mut_ref_ne rfl rfl (mut_agg (muts_cons (mut_own_ne rfl rfl) rfl)))), (keep_mut rfl rfl), (keep_mut (keep_clear (s := s) (pk := [5]) h11 rfl (Enc.map_enc _ (g_1.2 : List (Int × Int)))) (Enc.mut_enc _ _ _ _ (g_1.2 : List (Int × Int)))), (keep_mut (keep_clear (s := s) (pk := [5]) h12 rfl rfl) rfl), (keep_mut (keep_clear (s := s) (pk := [5]) h13 rfl rfl) rfl)⟩ ?_
      rintro s ⟨h2, h3, h5, h11, h12, h13⟩
      refine .nsq ?_
      refine .seq ?_
      refine run_reg ?_
      refine e_end ?_
      refine g_v1 (t := 3) (u := (.ref (.bx 3) 0 [] (.agg [(encO (.at 8 []) (.of (w_10 : List Int)))]))) (.ref (.bx 3) 0 [0] (encO (.at 8 []) (.of (w_10 : List Int)))) h3 rfl rfl ?_
      refine g_v1 (t := 17) (u := (.ref (.bx 3) 0 [0] (encO (.at 8 []) (.of (w_10 : List Int))))) (encO (.at 8 []) (.of (w_10 : List Int))) rfl rfl rfl ?_
      refine g_v1 (t := 5) (u := (.ref (.bx 5) 0 [] (.agg [(.int .i64 e_19.1), (.int .i64 e_19.2)]))) (.ref (.bx 5) 0 [0] (.int .i64 e_19.1)) h5 rfl rfl ?_
      refine g_v1 (t := 19) (u := (.ref (.bx 5) 0 [0] (.int .i64 e_19.1))) (.int .i64 e_19.1) rfl rfl rfl ?_
      obtain ⟨e_20, E_e_20, h⟩ := bind_some h
      refine g_v (.ref (.at 8 []) e_19.1.toNat [] (.int .i64 e_20)) (ev_idxO (o := (.of w_10)) rfl rfl E_e_20 rfl) ?_
      refine g_v1 (t := 21) (u := (.ref (.at 8 []) e_19.1.toNat [] (.int .i64 e_20))) (.int .i64 e_20) rfl rfl rfl ?_
      refine g_v1 (t := 5) (u := (.ref (.bx 5) 0 [] (.agg [(.int .i64 e_19.1), (.int .i64 e_19.2)]))) (.ref (.bx 5) 0 [1] (.int .i64 e_19.2)) h5 rfl rfl ?_
      refine g_v1 (t := 23) (u := (.ref (.bx 5) 0 [1] (.int .i64 e_19.2))) (.int .i64 e_19.2) rfl rfl rfl ?_
      obtain ⟨q_21, E_q_21, h⟩ := bind_some h
      refine g_v (.int .i64 q_21) (ev_shl rfl rfl E_q_21) ?_
      refine g_v2 (t1 := 22) (t2 := 25) (u1 := (.int .i64 e_20)) (u2 := (.int .i64 q_21)) (.int .i64 (ior .i64 e_20 q_21)) rfl rfl rfl rfl ?_
      obtain ⟨e_22, E_e_22, h⟩ := bind_some h
      refine g_v (.ref (.at 8 []) e_19.1.toNat [] (.int .i64 e_22)) (ev_idxO (o := (.of w_10)) rfl rfl E_e_22 rfl) ?_
      refine g_store (.int .i64 (ior .i64 e_20 q_21)) (rd_of rfl rfl) (rd_of rfl rfl) (by refine ⟨by decide, by decide, rfl, rfl, rfl, ?_⟩; first | rfl | simp [V.toks, V.tokss, Enc.toks_enc]) ?_
      refine g_end ?_
      refine e_end ?_
      refine renew [(2, (.ref (.bx 2) 0 [] (.agg [(.sl .nl (Enc.shp Int) 0 [])]))), (3, (.ref (.bx 3) 0 [] (.agg [(encO (.at 8 []) (.of (w_10.set e_19.1.toNat (ior .i64 e_20 q_21) : List Int)))]))), (5, (.ref (.bx 5) 0 [] (.agg [(.int .i64 e_19.1), (.int .i64 e_19.2)]))), (11, (Enc.enc (g_1.2 : List (Int × Int)))), (12, (.int .i64 (g_1.2.length : Int))), (13, (.int .i64 t13_11))] ⟨(keep_mut h2 (mut_ref_ne rfl rfl (mut_agg (muts_cons rfl rfl)))), (keep_mut h3 (mut_ref_ne rfl rfl (mut_agg (muts_cons mut_own rfl)))), (keep_mut h5 rfl), (keep_mut h11 (Enc.mut_enc _ _ _ _ (g_1.2 : List (Int × Int)))), (keep_mut h12 rfl), (keep_mut h13 rfl)⟩ ?_
      rintro s ⟨h2, h3, h5, h11, h12, h13⟩
      refine .nsq ?_
      refine run_reg ?_
      refine e_end ?_
      refine g_v1 (t := 3) (u := (.ref (.bx 3) 0 [] (.agg [(encO (.at 8 []) (.of (w_10.set e_19.1.toNat (ior .i64 e_20 q_21) : List Int)))]))) (.ref (.bx 3) 0 [0] (encO (.at 8 []) (.of (w_10.set e_19.1.toNat (ior .i64 e_20 q_21) : List Int)))) h3 rfl rfl ?_
      refine g_v1 (t := 28) (u := (.ref (.bx 3) 0 [0] (encO (.at 8 []) (.of (w_10.set e_19.1.toNat (ior .i64 e_20 q_21) : List Int))))) (encO (.at 8 []) (.of (w_10.set e_19.1.toNat (ior .i64 e_20 q_21) : List Int))) rfl rfl rfl ?_
      refine g_v1 (t := 5) (u := (.ref (.bx 5) 0 [] (.agg [(.int .i64 e_19.1), (.int .i64 e_19.2)]))) (.ref (.bx 5) 0 [1] (.int .i64 e_19.2)) h5 rfl rfl ?_
      refine g_v1 (t := 30) (u := (.ref (.bx 5) 0 [1] (.int .i64 e_19.2))) (.int .i64 e_19.2) rfl rfl rfl ?_
      obtain ⟨e_23, E_e_23, h⟩ := bind_some h
      refine g_v (.ref (.at 8 []) e_19.2.toNat [] (.int .i64 e_23)) (ev_idxO (o := (.of (w_10.set e_19.1.toNat (ior .i64 e_20 q_21)))) rfl rfl E_e_23 rfl) ?_
      refine g_v1 (t := 32) (u := (.ref (.at 8 []) e_19.2.toNat [] (.int .i64 e_23))) (.int .i64 e_23) rfl rfl rfl ?_
      refine g_v1 (t := 5) (u := (.ref (.bx 5) 0 [] (.agg [(.int .i64 e_19.1), (.int .i64 e_19.2)]))) (.ref (.bx 5) 0 [0] (.int .i64 e_19.1)) h5 rfl rfl ?_
      refine g_v1 (t := 34) (u := (.ref (.bx 5) 0 [0] (.int .i64 e_19.1))) (.int .i64 e_19.1) rfl rfl rfl ?_
      obtain ⟨q_24, E_q_24, h⟩ := bind_some h
      refine g_v (.int .i64 q_24) (ev_shl rfl rfl E_q_24) ?_
      refine g_v2 (t1 := 33) (t2 := 36) (u1 := (.int .i64 e_23)) (u2 := (.int .i64 q_24)) (.int .i64 (ior .i64 e_23 q_24)) rfl rfl rfl rfl ?_
      obtain ⟨e_25, E_e_25, h⟩ := bind_some h
      refine g_v (.ref (.at 8 []) e_19.2.toNat [] (.int .i64 e_25)) (ev_idxO (o := (.of (w_10.set e_19.1.toNat (ior .i64 e_20 q_21)))) rfl rfl E_e_25 rfl) ?_
      refine g_store (.int .i64 (ior .i64 e_23 q_24)) (rd_of rfl rfl) (rd_of rfl rfl) (by refine ⟨by decide, by decide, rfl, rfl, rfl, ?_⟩; first | rfl | simp [V.toks, V.tokss, Enc.toks_enc]) ?_
      refine g_end ?_
      refine e_end ?_
      refine renew [(2, (.ref (.bx 2) 0 [] (.agg [(.sl .nl (Enc.shp Int) 0 [])]))), (3, (.ref (.bx 3) 0 [] (.agg [(encO (.at 8 []) (.of ((w_10.set e_19.1.toNat (ior .i64 e_20 q_21)).set e_19.2.toNat (ior .i64 e_23 q_24) : List Int)))]))), (11, (Enc.enc (g_1.2 : List (Int × Int)))), (12, (.int .i64 (g_1.2.length : Int))), (13, (.int .i64 t13_11))] ⟨(keep_mut h2 (mut_ref_ne rfl rfl (mut_agg (muts_cons rfl rfl)))), (keep_mut h3 (mut_ref_ne rfl rfl (mut_agg (muts_cons mut_own rfl)))), (keep_mut h11 (Enc.mut_enc _ _ _ _ (g_1.2 : List (Int × Int)))), (keep_mut h12 rfl), (keep_mut h13 rfl)⟩ ?_
      rintro s ⟨h2, h3, h11, h12, h13⟩
      refine .nbk ?_
      refine .nsq ?_
      refine run_reg ?_
      refine e_end ?_
      refine g_v1 (t := 13) (u := (.int .i64 t13_11)) (.int .i64 (w64 (t13_11 + 1))) h13 rfl rfl ?_
      refine g_v1 (t := 39) (u := (.int .i64 (w64 (t13_11 + 1)))) (.int .i64 (w64 (t13_11 + 1))) rfl rfl rfl ?_
      refine g_end ?_
      refine e_end ?_
      refine renew [(2, (.ref (.bx 2) 0 [] (.agg [(.sl .nl (Enc.shp Int) 0 [])]))), (3, (.ref (.bx 3) 0 [] (.agg [(encO (.at 8 []) (.of ((w_10.set e_19.1.toNat (ior .i64 e_20 q_21)).set e_19.2.toNat (ior .i64 e_23 q_24) : List Int)))]))), (11, (Enc.enc (g_1.2 : List (Int × Int)))), (12, (.int .i64 (g_1.2.length : Int))), (13, (.int .i64 (w64 (t13_11 + 1))))] ⟨h2, h3, h11, h12, rfl⟩ ?_
      rintro s ⟨h2, h3, h11, h12, h13⟩
      refine .nlp ?_
      exact ih ((w_10.set e_19.1.toNat (ior .i64 e_20 q_21)).set e_19.2.toNat (ior .i64 e_23 q_24)) (w64 (t13_11 + 1)) _ ⟨h2, h3, h11, h12, h13⟩ h
    · refine .exit ?_
      refine .esq ?_
      refine .elp ?_
      refine .ebk ?_
      refine .nsq ?_
      refine .seq ?_
      refine run_reg ?_
      refine e_end ?_
      refine g_v1 (t := 3) (u := (.ref (.bx 3) 0 [] (.agg [(encO (.at 8 []) (.of (w_10 : List Int)))]))) (.agg [(encO (.at 8 []) (.of (w_10 : List Int)))]) h3 rfl rfl ?_
      refine g_store (.agg [(encO (.at 8 []) (.of (w_10 : List Int)))]) (rd_of h2 rfl) (rd_of rfl rfl) (by refine ⟨by decide, by decide, rfl, rfl, rfl, ?_⟩; first | rfl | simp [V.toks, V.tokss, Enc.toks_enc]) ?_
      refine g_end ?_
      refine e_end ?_
      refine renew [(2, (.ref (.bx 2) 0 [] (.agg [(encO (.at 8 []) (.of (w_10 : List Int)))])))] (keep_mut h2 rfl) ?_
      rintro s h2
      refine .nsq ?_
      refine .ret ?_
      have hr := Option.some.inj h
      subst hr
      exact rrA (res_cell h2 (by kernel_rfl)) (fin_retF (fin_agg (fins_cons (fin_own (o := .of w_10)) fins_nil)) (mine_agg (mines_cons (mine_own rfl) mines_nil)))
def i_netOf (F : Nat) (g_1 : (Int × (List (Int × Int)))) : Option (S1 (List Int)) :=
  (mkN g_1.1 (0 : Int)).bind fun mk_2 =>
  i_netOf_l1 F g_1 F mk_2 0
theorem t52 (H : H52 D σ F) (g_1 : (Int × (List (Int × Int)))) (s : Nat → V) (hs : Facts [(0, (.agg [(.int .i64 g_1.1), (Enc.enc (g_1.2 : List (Int × Int)))]))] s) (h : i_netOf F g_1 = some r) : Run D σ (R52 r) (.run A52 []) s := by
  unfold i_netOf at h
  have h0 := hs
  refine .seq ?_
  refine run_reg ?_
  refine e_clr ?_
  refine e_end ?_
  refine g_box (.agg [(.int .i64 g_1.1), (Enc.enc (g_1.2 : List (Int × Int)))]) (rd_of (keep_clear (s := s) (pk := [1, 2]) h0 rfl (map_agg (maps_cons rfl (maps_cons (Enc.map_enc _ (g_1.2 : List (Int × Int))) maps_nil)))) rfl) (gone_clear (s := s) (pk := [1, 2]) (t := 1) rfl) rfl ?_
  refine g_alloc (gone_clear (s := s) (pk := [1, 2]) (t := 2) rfl) ?_
  refine g_end ?_
  refine e_end ?_
  refine renew [(1, (.ref (.bx 1) 0 [] (.agg [(.int .i64 g_1.1), (Enc.enc (g_1.2 : List (Int × Int)))]))), (2, (.ref (.bx 2) 0 [] (.agg [(.sl .nl (Enc.shp Int) 0 [])])))] ⟨rfl, rfl⟩ ?_
  rintro s ⟨h1, h2⟩
  refine .nsq ?_
  refine .seq ?_
  refine run_reg ?_
  refine e_clr ?_
  refine e_end ?_
  refine g_v1 (t := 1) (u := (.ref (.bx 1) 0 [] (.agg [(.int .i64 g_1.1), (Enc.enc (g_1.2 : List (Int × Int)))]))) (.ref (.bx 1) 0 [0] (.int .i64 g_1.1)) (keep_clear (s := s) (pk := [8, 3]) h1 rfl (map_bx rfl (map_agg (maps_cons rfl (maps_cons (Enc.map_enc _ (g_1.2 : List (Int × Int))) maps_nil))))) rfl rfl ?_
  refine g_v1 (t := 6) (u := (.ref (.bx 1) 0 [0] (.int .i64 g_1.1))) (.int .i64 g_1.1) rfl rfl rfl ?_
  obtain ⟨mk_2, E_mk_2, h⟩ := bind_some h
  refine g_mk (0 : Int) rfl rfl (gone_clear (s := s) (pk := [8, 3]) (t := 8) rfl) E_mk_2 ?_
  refine g_v1 (t := 8) (u := (encO (.at 8 []) (.of (mk_2 : List Int)))) (.agg [(encO (.at 8 []) (.of (mk_2 : List Int)))]) rfl rfl rfl ?_
  refine g_alloc (gone_clear (s := s) (pk := [8, 3]) (t := 3) rfl) ?_
  refine g_store (.agg [(encO (.at 8 []) (.of (mk_2 : List Int)))]) (rd_of rfl rfl) (rd_of rfl rfl) (by refine ⟨by decide, by decide, rfl, rfl, rfl, ?_⟩; first | rfl | simp [V.toks, V.tokss, Enc.toks_enc]) ?_
  refine g_end ?_
  refine e_end ?_
  refine renew [(1, (.ref (.bx 1) 0 [] (.agg [(.int .i64 g_1.1), (Enc.enc (g_1.2 : List (Int × Int)))]))), (2, (.ref (.bx 2) 0 [] (.agg [(.sl .nl (Enc.shp Int) 0 [])]))), (3, (.ref (.bx 3) 0 [] (.agg [(encO (.at 8 []) (.of (mk_2 : List Int)))])))] ⟨(keep_mut (keep_clear (s := s) (pk := [8, 3]) h1 rfl (map_bx rfl (map_agg (maps_cons rfl (maps_cons (Enc.map_enc _ (g_1.2 : List (Int × Int))) maps_nil))))) (mut_ref_ne rfl rfl (mut_agg (muts_cons rfl (muts_cons (Enc.mut_enc _ _ _ _ (g_1.2 : List (Int × Int))) rfl))))), (keep_mut (keep_clear (s := s) (pk := [8, 3]) h2 rfl (map_bx rfl (map_agg (maps_cons rfl maps_nil)))) (mut_ref_ne rfl rfl (mut_agg (muts_cons rfl rfl)))), (keep_mut rfl rfl)⟩ ?_
  rintro s ⟨h1, h2, h3⟩
  refine .nsq ?_
  refine .seq ?_
  refine .seq ?_
  refine run_reg ?_
  refine e_end ?_
  refine g_v1 (t := 1) (u := (.ref (.bx 1) 0 [] (.agg [(.int .i64 g_1.1), (Enc.enc (g_1.2 : List (Int × Int)))]))) (.ref (.bx 1) 0 [1] (Enc.enc (g_1.2 : List (Int × Int)))) h1 rfl rfl ?_
  refine g_v1 (t := 10) (u := (.ref (.bx 1) 0 [1] (Enc.enc (g_1.2 : List (Int × Int))))) (Enc.enc (g_1.2 : List (Int × Int))) rfl rfl rfl ?_
  refine g_v (.int .i64 (g_1.2.length : Int)) (ev_len (xs := g_1.2) rfl) ?_
  refine g_v0 (.int .i64 0) rfl rfl ?_
  refine g_end ?_
  refine e_end ?_
  refine renew [(2, (.ref (.bx 2) 0 [] (.agg [(.sl .nl (Enc.shp Int) 0 [])]))), (3, (.ref (.bx 3) 0 [] (.agg [(encO (.at 8 []) (.of (mk_2 : List Int)))]))), (11, (Enc.enc (g_1.2 : List (Int × Int)))), (12, (.int .i64 (g_1.2.length : Int))), (13, (.int .i64 0))] ⟨h2, h3, rfl, rfl, rfl⟩ ?_
  rintro s ⟨h2, h3, h11, h12, h13⟩
  refine .nsq ?_
  refine .block ?_
  refine .loop ?_
  exact t_f52_l1 H g_1 F mk_2 0 _ ⟨h2, h3, h11, h12, h13⟩ h
end
def e52 (F : Nat) : Ent := ⟨52, da (fun (x : ((Int × (List (Int × Int))) × Unit)) => i_netOf F x.1) (fun (r : (S1 (List Int))) => (Enc.enc (r : (S1 (List Int))))), 0, false, selF []⟩
theorem p52 {F : Nat} {x0 : (Int × (List (Int × Int)))} {r : (S1 (List Int))} (h : i_netOf F x0 = some r) : (e52 F).den [Enc.enc x0] = some (Enc.enc (r : (S1 (List Int)))) := da_put (f := fun (x : ((Int × (List (Int × Int))) × Unit)) => i_netOf F x.1) (t := fun (r : (S1 (List Int))) => (Enc.enc (r : (S1 (List Int))))) (x0, ()) h
theorem o52 {D : Den} {σ : Sig} {F : Nat} (hF : Fits2 Try.prog D σ) (H : H52 D σ F) : (e52 F).Ok Try.prog := by
  refine ok_of (f := 52) (show unk 52 = 52 from rfl) (fun args r h => ?_) ⟨Try.f52, Try.func52, rfl, rfl⟩
  obtain ⟨⟨x0, _⟩, y, rfl, hy, rfl⟩ := da_open h
  exact contract_run hF (by kernel_rfl) Try.func52 rfl c52 (show 1 ≤ Try.f52.ntmps by decide) (t52 H x0 _ rfl hy)
/- (loop.example/g01109/impl.net).all -/
def A59_1 : AC := (.seq (.reg [] [(.mk (some 3) none false (.v (.fld (.t 1) 0 0))), (.mk (some 4) none false (.v (.load .p (.t 3)))), (.mk (some 5) none false (.v (.len (.t 4)))), (.mk (some 6) none false (.v (.bin .shl (.k (.int .i64 (.ofNat 1))) (.t 5)))), (.mk (some 7) none false (.v (.bin .sub (.t 6) (.k (.int .i64 (.ofNat 1)))))), (.mk (some 2) none false (.v (.mov (.t 7))))] []) .ret)
def A59 : AC := (.seq (.reg [.clr [1]] [(.mk (some 1) none false (.box (.t 0))), (.mk (some 2) none false (.v (.mov (.k (.int .i64 (.ofNat 0))))))] []) A59_1)
def an59 : List An := [{ id := 0, pre := [.clr [1]], ep := [], lin := [], sp := [] }]
theorem c59 : cC Try.prog Try.f59.ntmps an59 (Try.f59.body.getD .skip) = some A59 := by kernel_rfl
structure H59 (D : Den) (σ : Sig) (F : Nat) : Prop where
  mk ::
abbrev R59 (r : Int) : (Nat → V) → Prop := RR Try.prog [.tmp 2] 0 false (Enc.enc (r : Int))
section
variable {D : Den} {σ : Sig} {F : Nat} {r : Int}
def i_net_all (F : Nat) (w_1 : (S1 (List Int))) : Option Int :=
  (shlI .i64 1 (w_1.a.length : Int)).bind fun q_2 =>
  some (w64 (q_2 - 1))
theorem t59 (H : H59 D σ F) (w_1 : (S1 (List Int))) (s : Nat → V) (hs : Facts [(0, (.agg [(Enc.enc (w_1.a : List Int))]))] s) (h : i_net_all F w_1 = some r) : Run D σ (R59 r) (.run A59 []) s := by
  unfold i_net_all at h
  have h0 := hs
  refine .seq ?_
  refine run_reg ?_
  refine e_clr ?_
  refine e_end ?_
  refine g_box (.agg [(Enc.enc (w_1.a : List Int))]) (rd_of (keep_clear (s := s) (pk := [1]) h0 rfl (map_agg (maps_cons (Enc.map_enc _ (w_1.a : List Int)) maps_nil))) rfl) (gone_clear (s := s) (pk := [1]) (t := 1) rfl) rfl ?_
  refine g_v0 (.int .i64 0) rfl rfl ?_
  refine g_end ?_
  refine e_end ?_
  refine renew [(1, (.ref (.bx 1) 0 [] (.agg [(Enc.enc (w_1.a : List Int))]))), (2, (.int .i64 0))] ⟨rfl, rfl⟩ ?_
  rintro s ⟨h1, h2⟩
  refine .nsq ?_
  refine .seq ?_
  refine run_reg ?_
  refine e_end ?_
  refine g_v1 (t := 1) (u := (.ref (.bx 1) 0 [] (.agg [(Enc.enc (w_1.a : List Int))]))) (.ref (.bx 1) 0 [0] (Enc.enc (w_1.a : List Int))) h1 rfl rfl ?_
  refine g_v1 (t := 3) (u := (.ref (.bx 1) 0 [0] (Enc.enc (w_1.a : List Int)))) (Enc.enc (w_1.a : List Int)) rfl rfl rfl ?_
  refine g_v (.int .i64 (w_1.a.length : Int)) (ev_len (xs := w_1.a) rfl) ?_
  obtain ⟨q_2, E_q_2, h⟩ := bind_some h
  refine g_v (.int .i64 q_2) (ev_shl rfl rfl E_q_2) ?_
  refine g_v1 (t := 6) (u := (.int .i64 q_2)) (.int .i64 (w64 (q_2 - 1))) rfl rfl rfl ?_
  refine g_v1 (t := 7) (u := (.int .i64 (w64 (q_2 - 1)))) (.int .i64 (w64 (q_2 - 1))) rfl rfl rfl ?_
  refine g_end ?_
  refine e_end ?_
  refine renew [(2, (.int .i64 (w64 (q_2 - 1))))] rfl ?_
  rintro s h2
  refine .nsq ?_
  refine .ret ?_
  have hr := Option.some.inj h
  subst hr
  exact rrA (res_tmp h2) rfl
end
def e59 (F : Nat) : Ent := ⟨59, da (fun (x : ((S1 (List Int)) × Unit)) => i_net_all F x.1) (fun (r : Int) => (Enc.enc (r : Int))), 0, false, selF []⟩
theorem p59 {F : Nat} {x0 : (S1 (List Int))} {r : Int} (h : i_net_all F x0 = some r) : (e59 F).den [Enc.enc x0] = some (Enc.enc (r : Int)) := da_put (f := fun (x : ((S1 (List Int)) × Unit)) => i_net_all F x.1) (t := fun (r : Int) => (Enc.enc (r : Int))) (x0, ()) h
theorem o59 {D : Den} {σ : Sig} {F : Nat} (hF : Fits2 Try.prog D σ) (H : H59 D σ F) : (e59 F).Ok Try.prog := by
  refine ok_of (f := 59) (show unk 59 = 59 from rfl) (fun args r h => ?_) ⟨Try.f59, Try.func59, rfl, rfl⟩
  obtain ⟨⟨x0, _⟩, y, rfl, hy, rfl⟩ := da_open h
  exact contract_run hF (by kernel_rfl) Try.func59 rfl c59 (show 1 ≤ Try.f59.ntmps by decide) (t59 H x0 _ rfl hy)
/- loop.example/g01109/impl.setOf -/
def A60_2 : AC := (.cond (.t 8) .skip (.exit 0))
def A60_4 : AC := (.cond (.t 15) (.reg [.clr [18, 19]] [(.mk (some 16) none false (.v (.mov (.t 3)))), (.mk (some 17) none false (.v (.mov (.t 4)))), (.mk (some 18) none false (.lit (.int .i64 (.ofNat 0)) 1 [(0, 0, (.t 17))])), (.mk (some 19) none false (.app .s (.t 16) (.t 18))), (.mk (some 3) none false (.v (.mov (.t 19))))] [.home 19 3]) .skip)
def A60_5 : AC := (.reg [] [(.mk (some 9) none false (.v (.mov (.t 4)))), (.mk (some 10) none false (.v (.bin .add (.t 9) (.k (.int .i64 (.ofNat 1)))))), (.mk (some 4) none false (.v (.mov (.t 10))))] [])
def A60_3 : AC := (.seq (.block 1 (.seq (.reg [] [(.mk (some 11) none false (.v (.mov (.t 0)))), (.mk (some 12) none false (.v (.mov (.t 4)))), (.mk (some 13) none false (.v (.bin .shr (.t 11) (.t 12)))), (.mk (some 14) none false (.v (.bin .and (.t 13) (.k (.int .i64 (.ofNat 1)))))), (.mk (some 15) none false (.v (.bin .eql (.t 14) (.k (.int .i64 (.ofNat 1))))))] []) A60_4)) A60_5)
def A60_1 : AC := (.seq (.seq (.reg [] [(.mk (some 5) none false (.v (.mov (.t 0)))), (.mk (some 6) none false (.v (.mov (.t 4)))), (.mk (some 7) none false (.v (.bin .shr (.t 5) (.t 6)))), (.mk (some 8) none false (.v (.bin .neq (.t 7) (.k (.int .i64 (.ofNat 0))))))] []) A60_2) A60_3)
def A60_6 : AC := (.seq (.reg [] [(.mk (some 20) none false (.v (.mov (.t 3)))), (.mk (some 2) none false (.v (.mov (.t 20))))] [.home 3 2]) .ret)
def A60_9 : AC := (.block 0 (.loop A60_1))
def A60_8 : AC := (.seq (.seq (.reg [] [(.mk (some 4) none false (.v (.mov (.k (.int .i64 (.ofNat 0))))))] []) A60_9) A60_6)
def A60_7 : AC := (.seq (.reg [] [(.mk (some 3) none false (.v (.mov (.k (.sl .nl .s 0 [])))))] []) A60_8)
def A60 : AC := (.seq (.reg [] [(.mk (some 2) none false (.v (.mov (.k (.sl .nl .s 0 [])))))] []) A60_7)
def an60 : List An := [{ id := 6, pre := [.clr [18, 19]], ep := [.home 19 3], lin := [], sp := [] }, { id := 7, pre := [], ep := [.home 3 2], lin := [], sp := [] }]
theorem c60 : cC Try.prog Try.f60.ntmps an60 (Try.f60.body.getD .skip) = some A60 := by kernel_rfl
structure H60 (D : Den) (σ : Sig) (F : Nat) : Prop where
  mk ::
abbrev R60 (r : (List Int)) : (Nat → V) → Prop := RR Try.prog [.tmp 2] 0 false (Enc.enc (r : (List Int)))
section
variable {D : Den} {σ : Sig} {F : Nat} {r : (List Int)}
def i_setOf_j1 (F : Nat) (set_1 : Int) (x_8 : Int) (c1 : (NL Int) → Int → Option (List Int)) (list_17 : (NL Int)) : Option (List Int) :=
  c1 list_17 (w64 (x_8 + 1))
theorem t_f60_j1 (H : H60 D σ F) (set_1 : Int) (x_8 : Int) (c1 : (NL Int) → Int → Option (List Int)) (Hc1 : ∀ (list_7 : (NL Int)) (x_8 : Int) (s : Nat → V), Facts [(0, (.int .i64 set_1)), (2, (.sl .nl (Enc.shp Int) 0 [])), (3, (encO (.at 3 []) (list_7 : NL Int))), (4, (.int .i64 x_8))] s → c1 list_7 x_8 = some r → Run D σ (R60 r) (.run A60_1 [.lp A60_1, .bk 0, .sq A60_6]) s) (list_17 : (NL Int)) (s : Nat → V) (hs : Facts [(0, (.int .i64 set_1)), (2, (.sl .nl (Enc.shp Int) 0 [])), (3, (encO (.at 3 []) (list_17 : NL Int))), (4, (.int .i64 x_8))] s) (h : i_setOf_j1 F set_1 x_8 c1 list_17 = some r) : Run D σ (R60 r) (.nrm [.bk 1, .sq A60_5, .lp A60_1, .bk 0, .sq A60_6]) s := by
  unfold i_setOf_j1 at h
  obtain ⟨h0, h2, h3, h4⟩ := hs
  refine .nbk ?_
  refine .nsq ?_
  refine run_reg ?_
  refine e_end ?_
  refine g_v1 (t := 4) (u := (.int .i64 x_8)) (.int .i64 x_8) h4 rfl rfl ?_
  refine g_v1 (t := 9) (u := (.int .i64 x_8)) (.int .i64 (w64 (x_8 + 1))) rfl rfl rfl ?_
  refine g_v1 (t := 10) (u := (.int .i64 (w64 (x_8 + 1)))) (.int .i64 (w64 (x_8 + 1))) rfl rfl rfl ?_
  refine g_end ?_
  refine e_end ?_
  refine renew [(0, (.int .i64 set_1)), (2, (.sl .nl (Enc.shp Int) 0 [])), (3, (encO (.at 3 []) (list_17 : NL Int))), (4, (.int .i64 (w64 (x_8 + 1))))] ⟨h0, h2, h3, rfl⟩ ?_
  rintro s ⟨h0, h2, h3, h4⟩
  refine .nlp ?_
  exact Hc1 list_17 (w64 (x_8 + 1)) _ ⟨h0, h2, h3, h4⟩ h
def i_setOf_l1 (F : Nat) (set_1 : Int)  : Nat → (NL Int) → Int → Option (List Int)
  | 0, _, _ => none
  | k + 1, list_7, x_8 =>
    (shrI .i64 set_1 x_8).bind fun q_14 =>
    bif (q_14 != 0) then
      (shrI .i64 set_1 x_8).bind fun q_15 =>
      bif ((iand .i64 q_15 1) == 1) then
        (appL list_7.list [x_8]).bind fun ap_18 =>
        i_setOf_j1 F set_1 x_8 (i_setOf_l1 F set_1 k) (.of ap_18)
      else
        i_setOf_j1 F set_1 x_8 (i_setOf_l1 F set_1 k) list_7
    else
      some list_7.list
theorem t_f60_l1 (H : H60 D σ F) (set_1 : Int)  : ∀ (k : Nat) (list_7 : (NL Int)) (x_8 : Int) (s : Nat → V), Facts [(0, (.int .i64 set_1)), (2, (.sl .nl (Enc.shp Int) 0 [])), (3, (encO (.at 3 []) (list_7 : NL Int))), (4, (.int .i64 x_8))] s → i_setOf_l1 F set_1 k list_7 x_8 = some r → Run D σ (R60 r) (.run A60_1 [.lp A60_1, .bk 0, .sq A60_6]) s := by
  intro k
  induction k with
  | zero => intro list_7 x_8 s _ h; exact nomatch (h : (none : Option _) = some r)
  | succ k ih =>
    intro list_7 x_8 s hs h
    rw [i_setOf_l1] at h
    obtain ⟨h0, h2, h3, h4⟩ := hs
    refine .seq ?_
    refine .seq ?_
    refine run_reg ?_
    refine e_end ?_
    refine g_v1 (t := 0) (u := (.int .i64 set_1)) (.int .i64 set_1) h0 rfl rfl ?_
    refine g_v1 (t := 4) (u := (.int .i64 x_8)) (.int .i64 x_8) h4 rfl rfl ?_
    obtain ⟨q_14, E_q_14, h⟩ := bind_some h
    refine g_v (.int .i64 q_14) (ev_shr rfl rfl E_q_14) ?_
    refine g_v1 (t := 7) (u := (.int .i64 q_14)) (.bool (q_14 != 0)) rfl rfl rfl ?_
    refine g_end ?_
    refine e_end ?_
    refine renew [(0, (.int .i64 set_1)), (2, (.sl .nl (Enc.shp Int) 0 [])), (3, (encO (.at 3 []) (list_7 : NL Int))), (4, (.int .i64 x_8)), (8, (.bool (q_14 != 0)))] ⟨h0, h2, h3, h4, rfl⟩ ?_
    rintro s ⟨h0, h2, h3, h4, h8⟩
    refine .nsq ?_
    refine run_cond (t := (q_14 != 0)) h8 h (fun h => ?_) (fun h => ?_)
    · refine .skip ?_
      refine .nsq ?_
      refine .seq ?_
      refine .block ?_
      refine .seq ?_
      refine run_reg ?_
      refine e_end ?_
      refine g_v1 (t := 0) (u := (.int .i64 set_1)) (.int .i64 set_1) h0 rfl rfl ?_
      refine g_v1 (t := 4) (u := (.int .i64 x_8)) (.int .i64 x_8) h4 rfl rfl ?_
      obtain ⟨q_15, E_q_15, h⟩ := bind_some h
      refine g_v (.int .i64 q_15) (ev_shr rfl rfl E_q_15) ?_
      refine g_v1 (t := 13) (u := (.int .i64 q_15)) (.int .i64 (iand .i64 q_15 1)) rfl rfl rfl ?_
      refine g_v1 (t := 14) (u := (.int .i64 (iand .i64 q_15 1))) (.bool ((iand .i64 q_15 1) == 1)) rfl rfl rfl ?_
      refine g_end ?_
      refine e_end ?_
      refine renew [(0, (.int .i64 set_1)), (2, (.sl .nl (Enc.shp Int) 0 [])), (3, (encO (.at 3 []) (list_7 : NL Int))), (4, (.int .i64 x_8)), (15, (.bool ((iand .i64 q_15 1) == 1)))] ⟨h0, h2, h3, h4, rfl⟩ ?_
      rintro s ⟨h0, h2, h3, h4, h15⟩
      refine .nsq ?_
      refine run_cond (t := ((iand .i64 q_15 1) == 1)) h15 h (fun h => ?_) (fun h => ?_)
      · refine run_reg ?_
        refine e_clr ?_
        refine e_end ?_
        refine g_v (encO (.at 3 []) (list_7 : NL Int)) (ev_mov (keep_clear (s := s) (pk := [18, 19]) h3 rfl (map_encO (r := 3) (p := []) rfl rfl)) ok_encO) ?_
        refine g_v1 (t := 4) (u := (.int .i64 x_8)) (.int .i64 x_8) (keep_clear (s := s) (pk := [18, 19]) h4 rfl rfl) rfl rfl ?_
        refine g_litL [(17, (.int .i64 x_8))] [Enc.enc (x_8 : Int)] rfl rfl rfl (gone_clear (s := s) (pk := [18, 19]) (t := 18) rfl) ?_
        obtain ⟨ap_18, E_ap_18, h⟩ := bind_some h
        refine g_app (q := 3) (p := []) (o := (list_7 : NL Int)) (ys := ([x_8] : List Int)) (t2 := (.at 18 [])) (lo2 := 0) rfl rfl rfl (gone_clear (s := s) (pk := [18, 19]) (t := 19) rfl) (appN_L (o := (list_7 : NL Int)) E_ap_18 (by split <;> simp)) (fun s_17 ha_17 => ?_)
        refine g_v1 (t := 19) (u := (encO (.at 19 []) (.of (ap_18 : List Int)))) (encO (.at 19 []) (.of (ap_18 : List Int))) rfl rfl rfl ?_
        refine g_end ?_
        refine e_home (r := 19) (x := 3) (v := (encO (.at 19 []) (.of (ap_18 : List Int)))) (by exact rfl) rfl (fun s_18 hg_18 => ?_)
        refine e_end ?_
        refine renew [(0, (.int .i64 set_1)), (2, (.sl .nl (Enc.shp Int) 0 [])), (3, (encO (.at 3 []) (.of (ap_18 : List Int)))), (4, (.int .i64 x_8))] ⟨(hg_18 0 (.int .i64 set_1) (.int .i64 set_1) (show s_17 0 = (.int .i64 set_1) from keep_app ha_17 (keep_clear (s := s) (pk := [18, 19]) h0 rfl rfl) rfl) rfl), (hg_18 2 (.sl .nl (Enc.shp Int) 0 []) (.sl .nl (Enc.shp Int) 0 []) (show s_17 2 = (.sl .nl (Enc.shp Int) 0 []) from keep_app ha_17 (keep_clear (s := s) (pk := [18, 19]) h2 rfl rfl) rfl) rfl), (hg_18 3 (encO (.at 19 []) (.of (ap_18 : List Int))) (encO (.at 3 []) (.of (ap_18 : List Int))) rfl (map_encO (r := 19) (p := []) rfl rfl)), (hg_18 4 (.int .i64 x_8) (.int .i64 x_8) (show s_17 4 = (.int .i64 x_8) from keep_app ha_17 (keep_clear (s := s) (pk := [18, 19]) h4 rfl rfl) rfl) rfl)⟩ ?_
        rintro s ⟨h0, h2, h3, h4⟩
        exact t_f60_j1 H set_1 x_8 (i_setOf_l1 F set_1 k) ih (.of ap_18) _ ⟨h0, h2, h3, h4⟩ h
      · refine .skip ?_
        exact t_f60_j1 H set_1 x_8 (i_setOf_l1 F set_1 k) ih list_7 _ ⟨h0, h2, h3, h4⟩ h
    · refine .exit ?_
      refine .esq ?_
      refine .elp ?_
      refine .ebk ?_
      refine .nsq ?_
      refine .seq ?_
      refine run_reg ?_
      refine e_end ?_
      refine g_v (encO (.at 3 []) (list_7 : NL Int)) (ev_mov h3 ok_encO) ?_
      refine g_v (encO (.at 3 []) (list_7 : NL Int)) (ev_mov rfl ok_encO) ?_
      refine g_end ?_
      refine e_home (r := 3) (x := 2) (v := (encO (.at 3 []) (list_7 : NL Int))) (by exact rfl) ok_encO (fun s_19 hg_19 => ?_)
      refine e_end ?_
      refine renew [(2, (encO (.at 2 []) (list_7 : NL Int)))] (hg_19 2 (encO (.at 3 []) (list_7 : NL Int)) (encO (.at 2 []) (list_7 : NL Int)) rfl (map_encO (r := 3) (p := []) rfl rfl)) ?_
      rintro s h2
      refine .nsq ?_
      refine .ret ?_
      have hr := Option.some.inj h
      subst hr
      exact rrA (res_tmp h2) (fin_retF (fin_own (o := list_7)) (mine_own rfl))
def i_setOf (F : Nat) (set_1 : Int) : Option (List Int) :=
  i_setOf_l1 F set_1 F .nil 0
theorem t60 (H : H60 D σ F) (set_1 : Int) (s : Nat → V) (hs : Facts [(0, (.int .i64 set_1))] s) (h : i_setOf F set_1 = some r) : Run D σ (R60 r) (.run A60 []) s := by
  unfold i_setOf at h
  have h0 := hs
  refine .seq ?_
  refine run_reg ?_
  refine e_end ?_
  refine g_v0 (.sl .nl (Enc.shp Int) 0 []) rfl rfl ?_
  refine g_end ?_
  refine e_end ?_
  refine renew [(0, (.int .i64 set_1)), (2, (.sl .nl (Enc.shp Int) 0 []))] ⟨h0, rfl⟩ ?_
  rintro s ⟨h0, h2⟩
  refine .nsq ?_
  refine .seq ?_
  refine run_reg ?_
  refine e_end ?_
  refine g_v0 (.sl .nl (Enc.shp Int) 0 []) rfl rfl ?_
  refine g_end ?_
  refine e_end ?_
  refine renew [(0, (.int .i64 set_1)), (2, (.sl .nl (Enc.shp Int) 0 [])), (3, (.sl .nl (Enc.shp Int) 0 []))] ⟨h0, h2, rfl⟩ ?_
  rintro s ⟨h0, h2, h3⟩
  refine .nsq ?_
  refine .seq ?_
  refine .seq ?_
  refine run_reg ?_
  refine e_end ?_
  refine g_v0 (.int .i64 0) rfl rfl ?_
  refine g_end ?_
  refine e_end ?_
  refine renew [(0, (.int .i64 set_1)), (2, (.sl .nl (Enc.shp Int) 0 [])), (3, (.sl .nl (Enc.shp Int) 0 [])), (4, (.int .i64 0))] ⟨h0, h2, h3, rfl⟩ ?_
  rintro s ⟨h0, h2, h3, h4⟩
  refine .nsq ?_
  refine .block ?_
  refine .loop ?_
  exact t_f60_l1 H set_1 F .nil 0 _ ⟨h0, h2, h3, h4⟩ h
end
def e60 (F : Nat) : Ent := ⟨60, da (fun (x : (Int × Unit)) => i_setOf F x.1) (fun (r : (List Int)) => (Enc.enc (r : (List Int)))), 0, false, selF []⟩
theorem p60 {F : Nat} {x0 : Int} {r : (List Int)} (h : i_setOf F x0 = some r) : (e60 F).den [Enc.enc x0] = some (Enc.enc (r : (List Int))) := da_put (f := fun (x : (Int × Unit)) => i_setOf F x.1) (t := fun (r : (List Int)) => (Enc.enc (r : (List Int)))) (x0, ()) h
theorem o60 {D : Den} {σ : Sig} {F : Nat} (hF : Fits2 Try.prog D σ) (H : H60 D σ F) : (e60 F).Ok Try.prog := by
  refine ok_of (f := 60) (show unk 60 = 60 from rfl) (fun args r h => ?_) ⟨Try.f60, Try.func60, rfl, rfl⟩
  obtain ⟨⟨x0, _⟩, y, rfl, hy, rfl⟩ := da_open h
  exact contract_run hF (by kernel_rfl) Try.func60 rfl c60 (show 1 ≤ Try.f60.ntmps by decide) (t60 H x0 _ rfl hy)
/- (loop.example/g01109/impl.net).around -/
def A122_5 : AC := (.cond (.t 21) (.reg [] [(.mk (some 22) none false (.v (.mov (.t 5)))), (.mk (some 23) none false (.v (.mov (.t 7)))), (.mk (some 24) none false (.v (.bin .or (.t 22) (.t 23)))), (.mk (some 5) none false (.v (.mov (.t 24))))] []) .skip)
def A122_4 : AC := (.seq (.reg [] [(.mk (some 17) none false (.v (.mov (.t 1)))), (.mk (some 18) none false (.v (.mov (.t 6)))), (.mk (some 19) none false (.v (.bin .shr (.t 17) (.t 18)))), (.mk (some 20) none false (.v (.bin .and (.t 19) (.k (.int .i64 (.ofNat 1)))))), (.mk (some 21) none false (.v (.bin .eql (.t 20) (.k (.int .i64 (.ofNat 1))))))] []) A122_5)
def A122_6 : AC := (.reg [] [(.mk (some 25) none false (.v (.bin .add (.t 12) (.k (.int .i64 (.ofNat 1)))))), (.mk (some 12) none false (.v (.mov (.t 25))))] [])
def A122_3 : AC := (.seq (.block 1 (.seq (.reg [] [(.mk (some 14) none false (.v (.mov (.t 12)))), (.mk (some 15) none false (.v (.idx (.t 10) (.t 12) 1))), (.mk (some 16) none false (.v (.load .s (.t 15)))), (.mk (some 6) none false (.v (.mov (.t 14)))), (.mk (some 7) none false (.v (.mov (.t 16))))] []) A122_4)) A122_6)
def A122_2 : AC := (.seq (.cond (.t 13) .skip (.exit 0)) A122_3)
def A122_1 : AC := (.seq (.reg [] [(.mk (some 13) none false (.v (.bin .lss (.t 12) (.t 11))))] []) A122_2)
def A122_7 : AC := (.seq (.reg [] [(.mk (some 26) none false (.v (.mov (.t 5)))), (.mk (some 4) none false (.v (.mov (.t 26))))] []) .ret)
def A122_10 : AC := (.block 0 (.loop A122_1))
def A122_9 : AC := (.seq (.seq (.reg [] [(.mk (some 9) none false (.v (.fld (.t 2) 0 0))), (.mk (some 10) none false (.v (.load .p (.t 9)))), (.mk (some 11) none false (.v (.len (.t 10)))), (.mk (some 12) none false (.v (.mov (.k (.int .i64 (.ofNat 0))))))] []) A122_10) A122_7)
def A122_8 : AC := (.seq (.reg [] [(.mk (some 8) none false (.v (.mov (.t 1)))), (.mk (some 5) none false (.v (.mov (.t 8))))] []) A122_9)
def A122 : AC := (.seq (.reg [.clr [2]] [(.mk (some 2) none false (.box (.t 0))), (.mk (some 4) none false (.v (.mov (.k (.int .i64 (.ofNat 0))))))] []) A122_8)
def an122 : List An := [{ id := 0, pre := [.clr [2]], ep := [], lin := [], sp := [] }]
theorem c122 : cC Try.prog Try.f122.ntmps an122 (Try.f122.body.getD .skip) = some A122 := by kernel_rfl
structure H122 (D : Den) (σ : Sig) (F : Nat) : Prop where
  mk ::
abbrev R122 (r : Int) : (Nat → V) → Prop := RR Try.prog [.tmp 4] 0 false (Enc.enc (r : Int))
section
variable {D : Den} {σ : Sig} {F : Nat} {r : Int}
def i_net_around_j1 (F : Nat) (set_2 : Int) (w_1 : (S1 (List Int))) (t12_7 : Int) (c1 : Int → Int → Option Int) (out_13 : Int) : Option Int :=
  c1 out_13 (w64 (t12_7 + 1))
theorem t_f122_j1 (H : H122 D σ F) (set_2 : Int) (w_1 : (S1 (List Int))) (t12_7 : Int) (c1 : Int → Int → Option Int) (Hc1 : ∀ (out_6 : Int) (t12_7 : Int) (s : Nat → V), Facts [(1, (.int .i64 set_2)), (4, (.int .i64 0)), (5, (.int .i64 out_6)), (10, (Enc.enc (w_1.a : List Int))), (11, (.int .i64 (w_1.a.length : Int))), (12, (.int .i64 t12_7))] s → c1 out_6 t12_7 = some r → Run D σ (R122 r) (.run A122_1 [.lp A122_1, .bk 0, .sq A122_7]) s) (out_13 : Int) (s : Nat → V) (hs : Facts [(1, (.int .i64 set_2)), (4, (.int .i64 0)), (5, (.int .i64 out_13)), (10, (Enc.enc (w_1.a : List Int))), (11, (.int .i64 (w_1.a.length : Int))), (12, (.int .i64 t12_7))] s) (h : i_net_around_j1 F set_2 w_1 t12_7 c1 out_13 = some r) : Run D σ (R122 r) (.nrm [.bk 1, .sq A122_6, .lp A122_1, .bk 0, .sq A122_7]) s := by
  unfold i_net_around_j1 at h
  obtain ⟨h1, h4, h5, h10, h11, h12⟩ := hs
  refine .nbk ?_
  refine .nsq ?_
  refine run_reg ?_
  refine e_end ?_
  refine g_v1 (t := 12) (u := (.int .i64 t12_7)) (.int .i64 (w64 (t12_7 + 1))) h12 rfl rfl ?_
  refine g_v1 (t := 25) (u := (.int .i64 (w64 (t12_7 + 1)))) (.int .i64 (w64 (t12_7 + 1))) rfl rfl rfl ?_
  refine g_end ?_
  refine e_end ?_
  refine renew [(1, (.int .i64 set_2)), (4, (.int .i64 0)), (5, (.int .i64 out_13)), (10, (Enc.enc (w_1.a : List Int))), (11, (.int .i64 (w_1.a.length : Int))), (12, (.int .i64 (w64 (t12_7 + 1))))] ⟨h1, h4, h5, h10, h11, rfl⟩ ?_
  rintro s ⟨h1, h4, h5, h10, h11, h12⟩
  refine .nlp ?_
  exact Hc1 out_13 (w64 (t12_7 + 1)) _ ⟨h1, h4, h5, h10, h11, h12⟩ h
def i_net_around_l1 (F : Nat) (set_2 : Int) (w_1 : (S1 (List Int)))  : Nat → Int → Int → Option Int
  | 0, _, _ => none
  | k + 1, out_6, t12_7 =>
    bif decide (t12_7 < (w_1.a.length : Int)) then
      (idx w_1.a t12_7).bind fun e_11 =>
      (shrI .i64 set_2 t12_7).bind fun q_12 =>
      bif ((iand .i64 q_12 1) == 1) then
        i_net_around_j1 F set_2 w_1 t12_7 (i_net_around_l1 F set_2 w_1 k) (ior .i64 out_6 e_11)
      else
        i_net_around_j1 F set_2 w_1 t12_7 (i_net_around_l1 F set_2 w_1 k) out_6
    else
      some out_6
theorem t_f122_l1 (H : H122 D σ F) (set_2 : Int) (w_1 : (S1 (List Int)))  : ∀ (k : Nat) (out_6 : Int) (t12_7 : Int) (s : Nat → V), Facts [(1, (.int .i64 set_2)), (4, (.int .i64 0)), (5, (.int .i64 out_6)), (10, (Enc.enc (w_1.a : List Int))), (11, (.int .i64 (w_1.a.length : Int))), (12, (.int .i64 t12_7))] s → i_net_around_l1 F set_2 w_1 k out_6 t12_7 = some r → Run D σ (R122 r) (.run A122_1 [.lp A122_1, .bk 0, .sq A122_7]) s := by
  intro k
  induction k with
  | zero => intro out_6 t12_7 s _ h; exact nomatch (h : (none : Option _) = some r)
  | succ k ih =>
    intro out_6 t12_7 s hs h
    rw [i_net_around_l1] at h
    obtain ⟨h1, h4, h5, h10, h11, h12⟩ := hs
    refine .seq ?_
    refine run_reg ?_
    refine e_end ?_
    refine g_v2 (t1 := 12) (t2 := 11) (u1 := (.int .i64 t12_7)) (u2 := (.int .i64 (w_1.a.length : Int))) (.bool (decide (t12_7 < (w_1.a.length : Int)))) h12 h11 rfl rfl ?_
    refine g_end ?_
    refine e_end ?_
    refine renew [(1, (.int .i64 set_2)), (4, (.int .i64 0)), (5, (.int .i64 out_6)), (10, (Enc.enc (w_1.a : List Int))), (11, (.int .i64 (w_1.a.length : Int))), (12, (.int .i64 t12_7)), (13, (.bool (decide (t12_7 < (w_1.a.length : Int)))))] ⟨h1, h4, h5, h10, h11, h12, rfl⟩ ?_
    rintro s ⟨h1, h4, h5, h10, h11, h12, h13⟩
    refine .nsq ?_
    refine .seq ?_
    refine run_cond (t := decide (t12_7 < (w_1.a.length : Int))) h13 h (fun h => ?_) (fun h => ?_)
    · refine .skip ?_
      refine .nsq ?_
      refine .seq ?_
      refine .block ?_
      refine .seq ?_
      refine run_reg ?_
      refine e_end ?_
      refine g_v1 (t := 12) (u := (.int .i64 t12_7)) (.int .i64 t12_7) h12 rfl rfl ?_
      obtain ⟨e_11, E_e_11, h⟩ := bind_some h
      refine g_v (.ref .sh 0 [] (.int .i64 e_11)) (ev_idx (t := .sh) (lo := 0) (xs := w_1.a) h10 h12 E_e_11 rfl rfl) ?_
      refine g_v1 (t := 15) (u := (.ref .sh 0 [] (.int .i64 e_11))) (.int .i64 e_11) rfl rfl rfl ?_
      refine g_v1 (t := 14) (u := (.int .i64 t12_7)) (.int .i64 t12_7) rfl rfl rfl ?_
      refine g_v1 (t := 16) (u := (.int .i64 e_11)) (.int .i64 e_11) rfl rfl rfl ?_
      refine g_end ?_
      refine e_end ?_
      refine renew [(1, (.int .i64 set_2)), (4, (.int .i64 0)), (5, (.int .i64 out_6)), (6, (.int .i64 t12_7)), (7, (.int .i64 e_11)), (10, (Enc.enc (w_1.a : List Int))), (11, (.int .i64 (w_1.a.length : Int))), (12, (.int .i64 t12_7))] ⟨h1, h4, h5, rfl, rfl, h10, h11, h12⟩ ?_
      rintro s ⟨h1, h4, h5, h6, h7, h10, h11, h12⟩
      refine .nsq ?_
      refine .seq ?_
      refine run_reg ?_
      refine e_end ?_
      refine g_v1 (t := 1) (u := (.int .i64 set_2)) (.int .i64 set_2) h1 rfl rfl ?_
      refine g_v1 (t := 6) (u := (.int .i64 t12_7)) (.int .i64 t12_7) h6 rfl rfl ?_
      obtain ⟨q_12, E_q_12, h⟩ := bind_some h
      refine g_v (.int .i64 q_12) (ev_shr rfl rfl E_q_12) ?_
      refine g_v1 (t := 19) (u := (.int .i64 q_12)) (.int .i64 (iand .i64 q_12 1)) rfl rfl rfl ?_
      refine g_v1 (t := 20) (u := (.int .i64 (iand .i64 q_12 1))) (.bool ((iand .i64 q_12 1) == 1)) rfl rfl rfl ?_
      refine g_end ?_
      refine e_end ?_
      refine renew [(1, (.int .i64 set_2)), (4, (.int .i64 0)), (5, (.int .i64 out_6)), (7, (.int .i64 e_11)), (10, (Enc.enc (w_1.a : List Int))), (11, (.int .i64 (w_1.a.length : Int))), (12, (.int .i64 t12_7)), (21, (.bool ((iand .i64 q_12 1) == 1)))] ⟨h1, h4, h5, h7, h10, h11, h12, rfl⟩ ?_
      rintro s ⟨h1, h4, h5, h7, h10, h11, h12, h21⟩
      refine .nsq ?_
      refine run_cond (t := ((iand .i64 q_12 1) == 1)) h21 h (fun h => ?_) (fun h => ?_)
      · refine run_reg ?_
        refine e_end ?_
        refine g_v1 (t := 5) (u := (.int .i64 out_6)) (.int .i64 out_6) h5 rfl rfl ?_
        refine g_v1 (t := 7) (u := (.int .i64 e_11)) (.int .i64 e_11) h7 rfl rfl ?_
        refine g_v2 (t1 := 22) (t2 := 23) (u1 := (.int .i64 out_6)) (u2 := (.int .i64 e_11)) (.int .i64 (ior .i64 out_6 e_11)) rfl rfl rfl rfl ?_
        refine g_v1 (t := 24) (u := (.int .i64 (ior .i64 out_6 e_11))) (.int .i64 (ior .i64 out_6 e_11)) rfl rfl rfl ?_
        refine g_end ?_
        refine e_end ?_
        refine renew [(1, (.int .i64 set_2)), (4, (.int .i64 0)), (5, (.int .i64 (ior .i64 out_6 e_11))), (10, (Enc.enc (w_1.a : List Int))), (11, (.int .i64 (w_1.a.length : Int))), (12, (.int .i64 t12_7))] ⟨h1, h4, rfl, h10, h11, h12⟩ ?_
        rintro s ⟨h1, h4, h5, h10, h11, h12⟩
        exact t_f122_j1 H set_2 w_1 t12_7 (i_net_around_l1 F set_2 w_1 k) ih (ior .i64 out_6 e_11) _ ⟨h1, h4, h5, h10, h11, h12⟩ h
      · refine .skip ?_
        exact t_f122_j1 H set_2 w_1 t12_7 (i_net_around_l1 F set_2 w_1 k) ih out_6 _ ⟨h1, h4, h5, h10, h11, h12⟩ h
    · refine .exit ?_
      refine .esq ?_
      refine .elp ?_
      refine .ebk ?_
      refine .nsq ?_
      refine .seq ?_
      refine run_reg ?_
      refine e_end ?_
      refine g_v1 (t := 5) (u := (.int .i64 out_6)) (.int .i64 out_6) h5 rfl rfl ?_
      refine g_v1 (t := 26) (u := (.int .i64 out_6)) (.int .i64 out_6) rfl rfl rfl ?_
      refine g_end ?_
      refine e_end ?_
      refine renew [(4, (.int .i64 out_6))] rfl ?_
      rintro s h4
      refine .nsq ?_
      refine .ret ?_
      have hr := Option.some.inj h
      subst hr
      exact rrA (res_tmp h4) rfl
def i_net_around (F : Nat) (w_1 : (S1 (List Int))) (set_2 : Int) : Option Int :=
  i_net_around_l1 F set_2 w_1 F set_2 0
theorem t122 (H : H122 D σ F) (w_1 : (S1 (List Int))) (set_2 : Int) (s : Nat → V) (hs : Facts [(0, (.agg [(Enc.enc (w_1.a : List Int))])), (1, (.int .i64 set_2))] s) (h : i_net_around F w_1 set_2 = some r) : Run D σ (R122 r) (.run A122 []) s := by
  unfold i_net_around at h
  obtain ⟨h0, h1⟩ := hs
  refine .seq ?_
  refine run_reg ?_
  refine e_clr ?_
  refine e_end ?_
  refine g_box (.agg [(Enc.enc (w_1.a : List Int))]) (rd_of (keep_clear (s := s) (pk := [2]) h0 rfl (map_agg (maps_cons (Enc.map_enc _ (w_1.a : List Int)) maps_nil))) rfl) (gone_clear (s := s) (pk := [2]) (t := 2) rfl) rfl ?_
  refine g_v0 (.int .i64 0) rfl rfl ?_
  refine g_end ?_
  refine e_end ?_
  refine renew [(1, (.int .i64 set_2)), (2, (.ref (.bx 2) 0 [] (.agg [(Enc.enc (w_1.a : List Int))]))), (4, (.int .i64 0))] ⟨(keep_clear (s := s) (pk := [2]) h1 rfl rfl), rfl, rfl⟩ ?_
  rintro s ⟨h1, h2, h4⟩
  refine .nsq ?_
  refine .seq ?_
  refine run_reg ?_
  refine e_end ?_
  refine g_v1 (t := 1) (u := (.int .i64 set_2)) (.int .i64 set_2) h1 rfl rfl ?_
  refine g_v1 (t := 8) (u := (.int .i64 set_2)) (.int .i64 set_2) rfl rfl rfl ?_
  refine g_end ?_
  refine e_end ?_
  refine renew [(1, (.int .i64 set_2)), (2, (.ref (.bx 2) 0 [] (.agg [(Enc.enc (w_1.a : List Int))]))), (4, (.int .i64 0)), (5, (.int .i64 set_2))] ⟨h1, h2, h4, rfl⟩ ?_
  rintro s ⟨h1, h2, h4, h5⟩
  refine .nsq ?_
  refine .seq ?_
  refine .seq ?_
  refine run_reg ?_
  refine e_end ?_
  refine g_v1 (t := 2) (u := (.ref (.bx 2) 0 [] (.agg [(Enc.enc (w_1.a : List Int))]))) (.ref (.bx 2) 0 [0] (Enc.enc (w_1.a : List Int))) h2 rfl rfl ?_
  refine g_v1 (t := 9) (u := (.ref (.bx 2) 0 [0] (Enc.enc (w_1.a : List Int)))) (Enc.enc (w_1.a : List Int)) rfl rfl rfl ?_
  refine g_v (.int .i64 (w_1.a.length : Int)) (ev_len (xs := w_1.a) rfl) ?_
  refine g_v0 (.int .i64 0) rfl rfl ?_
  refine g_end ?_
  refine e_end ?_
  refine renew [(1, (.int .i64 set_2)), (4, (.int .i64 0)), (5, (.int .i64 set_2)), (10, (Enc.enc (w_1.a : List Int))), (11, (.int .i64 (w_1.a.length : Int))), (12, (.int .i64 0))] ⟨h1, h4, h5, rfl, rfl, rfl⟩ ?_
  rintro s ⟨h1, h4, h5, h10, h11, h12⟩
  refine .nsq ?_
  refine .block ?_
  refine .loop ?_
  exact t_f122_l1 H set_2 w_1 F set_2 0 _ ⟨h1, h4, h5, h10, h11, h12⟩ h
end
def e122 (F : Nat) : Ent := ⟨122, da (fun (x : ((S1 (List Int)) × Int × Unit)) => i_net_around F x.1 x.2.1) (fun (r : Int) => (Enc.enc (r : Int))), 0, false, selF []⟩
theorem p122 {F : Nat} {x0 : (S1 (List Int))} {x1 : Int} {r : Int} (h : i_net_around F x0 x1 = some r) : (e122 F).den [Enc.enc x0, Enc.enc x1] = some (Enc.enc (r : Int)) := da_put (f := fun (x : ((S1 (List Int)) × Int × Unit)) => i_net_around F x.1 x.2.1) (t := fun (r : Int) => (Enc.enc (r : Int))) (x0, x1, ()) h
theorem o122 {D : Den} {σ : Sig} {F : Nat} (hF : Fits2 Try.prog D σ) (H : H122 D σ F) : (e122 F).Ok Try.prog := by
  refine ok_of (f := 122) (show unk 122 = 122 from rfl) (fun args r h => ?_) ⟨Try.f122, Try.func122, rfl, rfl⟩
  obtain ⟨⟨x0, x1, _⟩, y, rfl, hy, rfl⟩ := da_open h
  exact contract_run hF (by kernel_rfl) Try.func122 rfl c122 (show 2 ≤ Try.f122.ntmps by decide) (t122 H x0 x1 _ ⟨rfl, rfl⟩ hy)
/- math/bits.OnesCount64 -/
def A109_7 : AC := (.seq (.reg [] [(.mk (some 32) none false (.v (.mov (.t 0)))), (.mk (some 33) none false (.v (.conv .i64 (.t 32)))), (.mk (some 34) none false (.v (.bin .and (.t 33) (.k (.int .i64 (.ofNat 127)))))), (.mk (some 2) none false (.v (.mov (.t 34))))] []) .ret)
def A109_6 : AC := (.seq (.reg [] [(.mk (some 28) none false (.v (.mov (.t 0)))), (.mk (some 29) none false (.v (.mov (.t 0)))), (.mk (some 30) none false (.v (.bin .shr (.t 29) (.k (.int .u64 (.ofNat 32)))))), (.mk (some 31) none false (.v (.bin .add (.t 28) (.t 30)))), (.mk (some 0) none false (.v (.mov (.t 31))))] []) A109_7)
def A109_5 : AC := (.seq (.reg [] [(.mk (some 24) none false (.v (.mov (.t 0)))), (.mk (some 25) none false (.v (.mov (.t 0)))), (.mk (some 26) none false (.v (.bin .shr (.t 25) (.k (.int .u64 (.ofNat 16)))))), (.mk (some 27) none false (.v (.bin .add (.t 24) (.t 26)))), (.mk (some 0) none false (.v (.mov (.t 27))))] []) A109_6)
def A109_4 : AC := (.seq (.reg [] [(.mk (some 20) none false (.v (.mov (.t 0)))), (.mk (some 21) none false (.v (.mov (.t 0)))), (.mk (some 22) none false (.v (.bin .shr (.t 21) (.k (.int .u64 (.ofNat 8)))))), (.mk (some 23) none false (.v (.bin .add (.t 20) (.t 22)))), (.mk (some 0) none false (.v (.mov (.t 23))))] []) A109_5)
def A109_3 : AC := (.seq (.reg [] [(.mk (some 15) none false (.v (.mov (.t 0)))), (.mk (some 16) none false (.v (.bin .shr (.t 15) (.k (.int .u64 (.ofNat 4)))))), (.mk (some 17) none false (.v (.mov (.t 0)))), (.mk (some 18) none false (.v (.bin .add (.t 16) (.t 17)))), (.mk (some 19) none false (.v (.bin .and (.t 18) (.k (.int .u64 (.ofNat 1085102592571150095)))))), (.mk (some 0) none false (.v (.mov (.t 19))))] []) A109_4)
def A109_2 : AC := (.seq (.reg [] [(.mk (some 9) none false (.v (.mov (.t 0)))), (.mk (some 10) none false (.v (.bin .shr (.t 9) (.k (.int .u64 (.ofNat 2)))))), (.mk (some 11) none false (.v (.bin .and (.t 10) (.k (.int .u64 (.ofNat 3689348814741910323)))))), (.mk (some 12) none false (.v (.mov (.t 0)))), (.mk (some 13) none false (.v (.bin .and (.t 12) (.k (.int .u64 (.ofNat 3689348814741910323)))))), (.mk (some 14) none false (.v (.bin .add (.t 11) (.t 13)))), (.mk (some 0) none false (.v (.mov (.t 14))))] []) A109_3)
def A109_1 : AC := (.seq (.reg [] [(.mk (some 3) none false (.v (.mov (.t 0)))), (.mk (some 4) none false (.v (.bin .shr (.t 3) (.k (.int .u64 (.ofNat 1)))))), (.mk (some 5) none false (.v (.bin .and (.t 4) (.k (.int .u64 (.ofNat 6148914691236517205)))))), (.mk (some 6) none false (.v (.mov (.t 0)))), (.mk (some 7) none false (.v (.bin .and (.t 6) (.k (.int .u64 (.ofNat 6148914691236517205)))))), (.mk (some 8) none false (.v (.bin .add (.t 5) (.t 7)))), (.mk (some 0) none false (.v (.mov (.t 8))))] []) A109_2)
def A109 : AC := (.seq (.reg [] [(.mk (some 2) none false (.v (.mov (.k (.int .i64 (.ofNat 0))))))] []) A109_1)
def an109 : List An := []
theorem c109 : cC Try.prog Try.f109.ntmps an109 (Try.f109.body.getD .skip) = some A109 := by kernel_rfl
structure H109 (D : Den) (σ : Sig) (F : Nat) : Prop where
  mk ::
abbrev R109 (r : Int) : (Nat → V) → Prop := RR Try.prog [.tmp 2] 0 false (Enc.enc (r : Int))
section
variable {D : Den} {σ : Sig} {F : Nat} {r : Int}
def bits_OnesCount64 (F : Nat) (x_1 : (Kd .u64)) : Option Int :=
  (shrI .u64 x_1.v 1).bind fun q_2 =>
  (shrI .u64 (IntKind.u64.wrap ((iand .u64 q_2 6148914691236517205) + (iand .u64 x_1.v 6148914691236517205))) 2).bind fun q_3 =>
  (shrI .u64 (IntKind.u64.wrap ((iand .u64 q_3 3689348814741910323) + (iand .u64 (IntKind.u64.wrap ((iand .u64 q_2 6148914691236517205) + (iand .u64 x_1.v 6148914691236517205))) 3689348814741910323))) 4).bind fun q_4 =>
  (shrI .u64 (iand .u64 (IntKind.u64.wrap (q_4 + (IntKind.u64.wrap ((iand .u64 q_3 3689348814741910323) + (iand .u64 (IntKind.u64.wrap ((iand .u64 q_2 6148914691236517205) + (iand .u64 x_1.v 6148914691236517205))) 3689348814741910323))))) 1085102592571150095) 8).bind fun q_5 =>
  (shrI .u64 (IntKind.u64.wrap ((iand .u64 (IntKind.u64.wrap (q_4 + (IntKind.u64.wrap ((iand .u64 q_3 3689348814741910323) + (iand .u64 (IntKind.u64.wrap ((iand .u64 q_2 6148914691236517205) + (iand .u64 x_1.v 6148914691236517205))) 3689348814741910323))))) 1085102592571150095) + q_5)) 16).bind fun q_6 =>
  (shrI .u64 (IntKind.u64.wrap ((IntKind.u64.wrap ((iand .u64 (IntKind.u64.wrap (q_4 + (IntKind.u64.wrap ((iand .u64 q_3 3689348814741910323) + (iand .u64 (IntKind.u64.wrap ((iand .u64 q_2 6148914691236517205) + (iand .u64 x_1.v 6148914691236517205))) 3689348814741910323))))) 1085102592571150095) + q_5)) + q_6)) 32).bind fun q_7 =>
  some (iand .i64 (w64 (IntKind.u64.wrap ((IntKind.u64.wrap ((IntKind.u64.wrap ((iand .u64 (IntKind.u64.wrap (q_4 + (IntKind.u64.wrap ((iand .u64 q_3 3689348814741910323) + (iand .u64 (IntKind.u64.wrap ((iand .u64 q_2 6148914691236517205) + (iand .u64 x_1.v 6148914691236517205))) 3689348814741910323))))) 1085102592571150095) + q_5)) + q_6)) + q_7))) 127)
theorem t109 (H : H109 D σ F) (x_1 : (Kd .u64)) (s : Nat → V) (hs : Facts [(0, (.int .u64 x_1.v))] s) (h : bits_OnesCount64 F x_1 = some r) : Run D σ (R109 r) (.run A109 []) s := by
  unfold bits_OnesCount64 at h
  have h0 := hs
  refine .seq ?_
  refine run_reg ?_
  refine e_end ?_
  refine g_v0 (.int .i64 0) rfl rfl ?_
  refine g_end ?_
  refine e_end ?_
  refine renew [(0, (.int .u64 x_1.v)), (2, (.int .i64 0))] ⟨h0, rfl⟩ ?_
  rintro s ⟨h0, h2⟩
  refine .nsq ?_
  refine .seq ?_
  refine run_reg ?_
  refine e_end ?_
  refine g_v1 (t := 0) (u := (.int .u64 x_1.v)) (.int .u64 x_1.v) h0 rfl rfl ?_
  obtain ⟨q_2, E_q_2, h⟩ := bind_some h
  refine g_v (.int .u64 q_2) (ev_shr rfl rfl E_q_2) ?_
  refine g_v1 (t := 4) (u := (.int .u64 q_2)) (.int .u64 (iand .u64 q_2 6148914691236517205)) rfl rfl rfl ?_
  refine g_v1 (t := 0) (u := (.int .u64 x_1.v)) (.int .u64 x_1.v) h0 rfl rfl ?_
  refine g_v1 (t := 6) (u := (.int .u64 x_1.v)) (.int .u64 (iand .u64 x_1.v 6148914691236517205)) rfl rfl rfl ?_
  refine g_v2 (t1 := 5) (t2 := 7) (u1 := (.int .u64 (iand .u64 q_2 6148914691236517205))) (u2 := (.int .u64 (iand .u64 x_1.v 6148914691236517205))) (.int .u64 (IntKind.u64.wrap ((iand .u64 q_2 6148914691236517205) + (iand .u64 x_1.v 6148914691236517205)))) rfl rfl rfl rfl ?_
  refine g_v1 (t := 8) (u := (.int .u64 (IntKind.u64.wrap ((iand .u64 q_2 6148914691236517205) + (iand .u64 x_1.v 6148914691236517205))))) (.int .u64 (IntKind.u64.wrap ((iand .u64 q_2 6148914691236517205) + (iand .u64 x_1.v 6148914691236517205)))) rfl rfl rfl ?_
  refine g_end ?_
  refine e_end ?_
  refine renew [(0, (.int .u64 (IntKind.u64.wrap ((iand .u64 q_2 6148914691236517205) + (iand .u64 x_1.v 6148914691236517205))))), (2, (.int .i64 0))] ⟨rfl, h2⟩ ?_
  rintro s ⟨h0, h2⟩
  refine .nsq ?_
  refine .seq ?_
  refine run_reg ?_
  refine e_end ?_
  refine g_v1 (t := 0) (u := (.int .u64 (IntKind.u64.wrap ((iand .u64 q_2 6148914691236517205) + (iand .u64 x_1.v 6148914691236517205))))) (.int .u64 (IntKind.u64.wrap ((iand .u64 q_2 6148914691236517205) + (iand .u64 x_1.v 6148914691236517205)))) h0 rfl rfl ?_
  obtain ⟨q_3, E_q_3, h⟩ := bind_some h
  refine g_v (.int .u64 q_3) (ev_shr rfl rfl E_q_3) ?_
  refine g_v1 (t := 10) (u := (.int .u64 q_3)) (.int .u64 (iand .u64 q_3 3689348814741910323)) rfl rfl rfl ?_
  refine g_v1 (t := 0) (u := (.int .u64 (IntKind.u64.wrap ((iand .u64 q_2 6148914691236517205) + (iand .u64 x_1.v 6148914691236517205))))) (.int .u64 (IntKind.u64.wrap ((iand .u64 q_2 6148914691236517205) + (iand .u64 x_1.v 6148914691236517205)))) h0 rfl rfl ?_
  refine g_v1 (t := 12) (u := (.int .u64 (IntKind.u64.wrap ((iand .u64 q_2 6148914691236517205) + (iand .u64 x_1.v 6148914691236517205))))) (.int .u64 (iand .u64 (IntKind.u64.wrap ((iand .u64 q_2 6148914691236517205) + (iand .u64 x_1.v 6148914691236517205))) 3689348814741910323)) rfl rfl rfl ?_
  refine g_v2 (t1 := 11) (t2 := 13) (u1 := (.int .u64 (iand .u64 q_3 3689348814741910323))) (u2 := (.int .u64 (iand .u64 (IntKind.u64.wrap ((iand .u64 q_2 6148914691236517205) + (iand .u64 x_1.v 6148914691236517205))) 3689348814741910323))) (.int .u64 (IntKind.u64.wrap ((iand .u64 q_3 3689348814741910323) + (iand .u64 (IntKind.u64.wrap ((iand .u64 q_2 6148914691236517205) + (iand .u64 x_1.v 6148914691236517205))) 3689348814741910323)))) rfl rfl rfl rfl ?_
  refine g_v1 (t := 14) (u := (.int .u64 (IntKind.u64.wrap ((iand .u64 q_3 3689348814741910323) + (iand .u64 (IntKind.u64.wrap ((iand .u64 q_2 6148914691236517205) + (iand .u64 x_1.v 6148914691236517205))) 3689348814741910323))))) (.int .u64 (IntKind.u64.wrap ((iand .u64 q_3 3689348814741910323) + (iand .u64 (IntKind.u64.wrap ((iand .u64 q_2 6148914691236517205) + (iand .u64 x_1.v 6148914691236517205))) 3689348814741910323)))) rfl rfl rfl ?_
  refine g_end ?_
  refine e_end ?_
  refine renew [(0, (.int .u64 (IntKind.u64.wrap ((iand .u64 q_3 3689348814741910323) + (iand .u64 (IntKind.u64.wrap ((iand .u64 q_2 6148914691236517205) + (iand .u64 x_1.v 6148914691236517205))) 3689348814741910323))))), (2, (.int .i64 0))] ⟨rfl, h2⟩ ?_
  rintro s ⟨h0, h2⟩
  refine .nsq ?_
  refine .seq ?_
  refine run_reg ?_
  refine e_end ?_
  refine g_v1 (t := 0) (u := (.int .u64 (IntKind.u64.wrap ((iand .u64 q_3 3689348814741910323) + (iand .u64 (IntKind.u64.wrap ((iand .u64 q_2 6148914691236517205) + (iand .u64 x_1.v 6148914691236517205))) 3689348814741910323))))) (.int .u64 (IntKind.u64.wrap ((iand .u64 q_3 3689348814741910323) + (iand .u64 (IntKind.u64.wrap ((iand .u64 q_2 6148914691236517205) + (iand .u64 x_1.v 6148914691236517205))) 3689348814741910323)))) h0 rfl rfl ?_
  obtain ⟨q_4, E_q_4, h⟩ := bind_some h
  refine g_v (.int .u64 q_4) (ev_shr rfl rfl E_q_4) ?_
  refine g_v1 (t := 0) (u := (.int .u64 (IntKind.u64.wrap ((iand .u64 q_3 3689348814741910323) + (iand .u64 (IntKind.u64.wrap ((iand .u64 q_2 6148914691236517205) + (iand .u64 x_1.v 6148914691236517205))) 3689348814741910323))))) (.int .u64 (IntKind.u64.wrap ((iand .u64 q_3 3689348814741910323) + (iand .u64 (IntKind.u64.wrap ((iand .u64 q_2 6148914691236517205) + (iand .u64 x_1.v 6148914691236517205))) 3689348814741910323)))) h0 rfl rfl ?_
  refine g_v2 (t1 := 16) (t2 := 17) (u1 := (.int .u64 q_4)) (u2 := (.int .u64 (IntKind.u64.wrap ((iand .u64 q_3 3689348814741910323) + (iand .u64 (IntKind.u64.wrap ((iand .u64 q_2 6148914691236517205) + (iand .u64 x_1.v 6148914691236517205))) 3689348814741910323))))) (.int .u64 (IntKind.u64.wrap (q_4 + (IntKind.u64.wrap ((iand .u64 q_3 3689348814741910323) + (iand .u64 (IntKind.u64.wrap ((iand .u64 q_2 6148914691236517205) + (iand .u64 x_1.v 6148914691236517205))) 3689348814741910323)))))) rfl rfl rfl rfl ?_
  refine g_v1 (t := 18) (u := (.int .u64 (IntKind.u64.wrap (q_4 + (IntKind.u64.wrap ((iand .u64 q_3 3689348814741910323) + (iand .u64 (IntKind.u64.wrap ((iand .u64 q_2 6148914691236517205) + (iand .u64 x_1.v 6148914691236517205))) 3689348814741910323))))))) (.int .u64 (iand .u64 (IntKind.u64.wrap (q_4 + (IntKind.u64.wrap ((iand .u64 q_3 3689348814741910323) + (iand .u64 (IntKind.u64.wrap ((iand .u64 q_2 6148914691236517205) + (iand .u64 x_1.v 6148914691236517205))) 3689348814741910323))))) 1085102592571150095)) rfl rfl rfl ?_
  refine g_v1 (t := 19) (u := (.int .u64 (iand .u64 (IntKind.u64.wrap (q_4 + (IntKind.u64.wrap ((iand .u64 q_3 3689348814741910323) + (iand .u64 (IntKind.u64.wrap ((iand .u64 q_2 6148914691236517205) + (iand .u64 x_1.v 6148914691236517205))) 3689348814741910323))))) 1085102592571150095))) (.int .u64 (iand .u64 (IntKind.u64.wrap (q_4 + (IntKind.u64.wrap ((iand .u64 q_3 3689348814741910323) + (iand .u64 (IntKind.u64.wrap ((iand .u64 q_2 6148914691236517205) + (iand .u64 x_1.v 6148914691236517205))) 3689348814741910323))))) 1085102592571150095)) rfl rfl rfl ?_
  refine g_end ?_
  refine e_end ?_
  refine renew [(0, (.int .u64 (iand .u64 (IntKind.u64.wrap (q_4 + (IntKind.u64.wrap ((iand .u64 q_3 3689348814741910323) + (iand .u64 (IntKind.u64.wrap ((iand .u64 q_2 6148914691236517205) + (iand .u64 x_1.v 6148914691236517205))) 3689348814741910323))))) 1085102592571150095))), (2, (.int .i64 0))] ⟨rfl, h2⟩ ?_
  rintro s ⟨h0, h2⟩
  refine .nsq ?_
  refine .seq ?_
  refine run_reg ?_
  refine e_end ?_
  refine g_v1 (t := 0) (u := (.int .u64 (iand .u64 (IntKind.u64.wrap (q_4 + (IntKind.u64.wrap ((iand .u64 q_3 3689348814741910323) + (iand .u64 (IntKind.u64.wrap ((iand .u64 q_2 6148914691236517205) + (iand .u64 x_1.v 6148914691236517205))) 3689348814741910323))))) 1085102592571150095))) (.int .u64 (iand .u64 (IntKind.u64.wrap (q_4 + (IntKind.u64.wrap ((iand .u64 q_3 3689348814741910323) + (iand .u64 (IntKind.u64.wrap ((iand .u64 q_2 6148914691236517205) + (iand .u64 x_1.v 6148914691236517205))) 3689348814741910323))))) 1085102592571150095)) h0 rfl rfl ?_
  refine g_v1 (t := 0) (u := (.int .u64 (iand .u64 (IntKind.u64.wrap (q_4 + (IntKind.u64.wrap ((iand .u64 q_3 3689348814741910323) + (iand .u64 (IntKind.u64.wrap ((iand .u64 q_2 6148914691236517205) + (iand .u64 x_1.v 6148914691236517205))) 3689348814741910323))))) 1085102592571150095))) (.int .u64 (iand .u64 (IntKind.u64.wrap (q_4 + (IntKind.u64.wrap ((iand .u64 q_3 3689348814741910323) + (iand .u64 (IntKind.u64.wrap ((iand .u64 q_2 6148914691236517205) + (iand .u64 x_1.v 6148914691236517205))) 3689348814741910323))))) 1085102592571150095)) h0 rfl rfl ?_
  obtain ⟨q_5, E_q_5, h⟩ := bind_some h
  refine g_v (.int .u64 q_5) (ev_shr rfl rfl E_q_5) ?_
  refine g_v2 (t1 := 20) (t2 := 22) (u1 := (.int .u64 (iand .u64 (IntKind.u64.wrap (q_4 + (IntKind.u64.wrap ((iand .u64 q_3 3689348814741910323) + (iand .u64 (IntKind.u64.wrap ((iand .u64 q_2 6148914691236517205) + (iand .u64 x_1.v 6148914691236517205))) 3689348814741910323))))) 1085102592571150095))) (u2 := (.int .u64 q_5)) (.int .u64 (IntKind.u64.wrap ((iand .u64 (IntKind.u64.wrap (q_4 + (IntKind.u64.wrap ((iand .u64 q_3 3689348814741910323) + (iand .u64 (IntKind.u64.wrap ((iand .u64 q_2 6148914691236517205) + (iand .u64 x_1.v 6148914691236517205))) 3689348814741910323))))) 1085102592571150095) + q_5))) rfl rfl rfl rfl ?_
  refine g_v1 (t := 23) (u := (.int .u64 (IntKind.u64.wrap ((iand .u64 (IntKind.u64.wrap (q_4 + (IntKind.u64.wrap ((iand .u64 q_3 3689348814741910323) + (iand .u64 (IntKind.u64.wrap ((iand .u64 q_2 6148914691236517205) + (iand .u64 x_1.v 6148914691236517205))) 3689348814741910323))))) 1085102592571150095) + q_5)))) (.int .u64 (IntKind.u64.wrap ((iand .u64 (IntKind.u64.wrap (q_4 + (IntKind.u64.wrap ((iand .u64 q_3 3689348814741910323) + (iand .u64 (IntKind.u64.wrap ((iand .u64 q_2 6148914691236517205) + (iand .u64 x_1.v 6148914691236517205))) 3689348814741910323))))) 1085102592571150095) + q_5))) rfl rfl rfl ?_
  refine g_end ?_
  refine e_end ?_
  refine renew [(0, (.int .u64 (IntKind.u64.wrap ((iand .u64 (IntKind.u64.wrap (q_4 + (IntKind.u64.wrap ((iand .u64 q_3 3689348814741910323) + (iand .u64 (IntKind.u64.wrap ((iand .u64 q_2 6148914691236517205) + (iand .u64 x_1.v 6148914691236517205))) 3689348814741910323))))) 1085102592571150095) + q_5)))), (2, (.int .i64 0))] ⟨rfl, h2⟩ ?_
  rintro s ⟨h0, h2⟩
  refine .nsq ?_
  refine .seq ?_
  refine run_reg ?_
  refine e_end ?_
  refine g_v1 (t := 0) (u := (.int .u64 (IntKind.u64.wrap ((iand .u64 (IntKind.u64.wrap (q_4 + (IntKind.u64.wrap ((iand .u64 q_3 3689348814741910323) + (iand .u64 (IntKind.u64.wrap ((iand .u64 q_2 6148914691236517205) + (iand .u64 x_1.v 6148914691236517205))) 3689348814741910323))))) 1085102592571150095) + q_5)))) (.int .u64 (IntKind.u64.wrap ((iand .u64 (IntKind.u64.wrap (q_4 + (IntKind.u64.wrap ((iand .u64 q_3 3689348814741910323) + (iand .u64 (IntKind.u64.wrap ((iand .u64 q_2 6148914691236517205) + (iand .u64 x_1.v 6148914691236517205))) 3689348814741910323))))) 1085102592571150095) + q_5))) h0 rfl rfl ?_
  refine g_v1 (t := 0) (u := (.int .u64 (IntKind.u64.wrap ((iand .u64 (IntKind.u64.wrap (q_4 + (IntKind.u64.wrap ((iand .u64 q_3 3689348814741910323) + (iand .u64 (IntKind.u64.wrap ((iand .u64 q_2 6148914691236517205) + (iand .u64 x_1.v 6148914691236517205))) 3689348814741910323))))) 1085102592571150095) + q_5)))) (.int .u64 (IntKind.u64.wrap ((iand .u64 (IntKind.u64.wrap (q_4 + (IntKind.u64.wrap ((iand .u64 q_3 3689348814741910323) + (iand .u64 (IntKind.u64.wrap ((iand .u64 q_2 6148914691236517205) + (iand .u64 x_1.v 6148914691236517205))) 3689348814741910323))))) 1085102592571150095) + q_5))) h0 rfl rfl ?_
  obtain ⟨q_6, E_q_6, h⟩ := bind_some h
  refine g_v (.int .u64 q_6) (ev_shr rfl rfl E_q_6) ?_
  refine g_v2 (t1 := 24) (t2 := 26) (u1 := (.int .u64 (IntKind.u64.wrap ((iand .u64 (IntKind.u64.wrap (q_4 + (IntKind.u64.wrap ((iand .u64 q_3 3689348814741910323) + (iand .u64 (IntKind.u64.wrap ((iand .u64 q_2 6148914691236517205) + (iand .u64 x_1.v 6148914691236517205))) 3689348814741910323))))) 1085102592571150095) + q_5)))) (u2 := (.int .u64 q_6)) (.int .u64 (IntKind.u64.wrap ((IntKind.u64.wrap ((iand .u64 (IntKind.u64.wrap (q_4 + (IntKind.u64.wrap ((iand .u64 q_3 3689348814741910323) + (iand .u64 (IntKind.u64.wrap ((iand .u64 q_2 6148914691236517205) + (iand .u64 x_1.v 6148914691236517205))) 3689348814741910323))))) 1085102592571150095) + q_5)) + q_6))) rfl rfl rfl rfl ?_
  refine g_v1 (t := 27) (u := (.int .u64 (IntKind.u64.wrap ((IntKind.u64.wrap ((iand .u64 (IntKind.u64.wrap (q_4 + (IntKind.u64.wrap ((iand .u64 q_3 3689348814741910323) + (iand .u64 (IntKind.u64.wrap ((iand .u64 q_2 6148914691236517205) + (iand .u64 x_1.v 6148914691236517205))) 3689348814741910323))))) 1085102592571150095) + q_5)) + q_6)))) (.int .u64 (IntKind.u64.wrap ((IntKind.u64.wrap ((iand .u64 (IntKind.u64.wrap (q_4 + (IntKind.u64.wrap ((iand .u64 q_3 3689348814741910323) + (iand .u64 (IntKind.u64.wrap ((iand .u64 q_2 6148914691236517205) + (iand .u64 x_1.v 6148914691236517205))) 3689348814741910323))))) 1085102592571150095) + q_5)) + q_6))) rfl rfl rfl ?_
  refine g_end ?_
  refine e_end ?_
  refine renew [(0, (.int .u64 (IntKind.u64.wrap ((IntKind.u64.wrap ((iand .u64 (IntKind.u64.wrap (q_4 + (IntKind.u64.wrap ((iand .u64 q_3 3689348814741910323) + (iand .u64 (IntKind.u64.wrap ((iand .u64 q_2 6148914691236517205) + (iand .u64 x_1.v 6148914691236517205))) 3689348814741910323))))) 1085102592571150095) + q_5)) + q_6)))), (2, (.int .i64 0))] ⟨rfl, h2⟩ ?_
  rintro s ⟨h0, h2⟩
  refine .nsq ?_
  refine .seq ?_
  refine run_reg ?_
  refine e_end ?_
  refine g_v1 (t := 0) (u := (.int .u64 (IntKind.u64.wrap ((IntKind.u64.wrap ((iand .u64 (IntKind.u64.wrap (q_4 + (IntKind.u64.wrap ((iand .u64 q_3 3689348814741910323) + (iand .u64 (IntKind.u64.wrap ((iand .u64 q_2 6148914691236517205) + (iand .u64 x_1.v 6148914691236517205))) 3689348814741910323))))) 1085102592571150095) + q_5)) + q_6)))) (.int .u64 (IntKind.u64.wrap ((IntKind.u64.wrap ((iand .u64 (IntKind.u64.wrap (q_4 + (IntKind.u64.wrap ((iand .u64 q_3 3689348814741910323) + (iand .u64 (IntKind.u64.wrap ((iand .u64 q_2 6148914691236517205) + (iand .u64 x_1.v 6148914691236517205))) 3689348814741910323))))) 1085102592571150095) + q_5)) + q_6))) h0 rfl rfl ?_
  refine g_v1 (t := 0) (u := (.int .u64 (IntKind.u64.wrap ((IntKind.u64.wrap ((iand .u64 (IntKind.u64.wrap (q_4 + (IntKind.u64.wrap ((iand .u64 q_3 3689348814741910323) + (iand .u64 (IntKind.u64.wrap ((iand .u64 q_2 6148914691236517205) + (iand .u64 x_1.v 6148914691236517205))) 3689348814741910323))))) 1085102592571150095) + q_5)) + q_6)))) (.int .u64 (IntKind.u64.wrap ((IntKind.u64.wrap ((iand .u64 (IntKind.u64.wrap (q_4 + (IntKind.u64.wrap ((iand .u64 q_3 3689348814741910323) + (iand .u64 (IntKind.u64.wrap ((iand .u64 q_2 6148914691236517205) + (iand .u64 x_1.v 6148914691236517205))) 3689348814741910323))))) 1085102592571150095) + q_5)) + q_6))) h0 rfl rfl ?_
  obtain ⟨q_7, E_q_7, h⟩ := bind_some h
  refine g_v (.int .u64 q_7) (ev_shr rfl rfl E_q_7) ?_
  refine g_v2 (t1 := 28) (t2 := 30) (u1 := (.int .u64 (IntKind.u64.wrap ((IntKind.u64.wrap ((iand .u64 (IntKind.u64.wrap (q_4 + (IntKind.u64.wrap ((iand .u64 q_3 3689348814741910323) + (iand .u64 (IntKind.u64.wrap ((iand .u64 q_2 6148914691236517205) + (iand .u64 x_1.v 6148914691236517205))) 3689348814741910323))))) 1085102592571150095) + q_5)) + q_6)))) (u2 := (.int .u64 q_7)) (.int .u64 (IntKind.u64.wrap ((IntKind.u64.wrap ((IntKind.u64.wrap ((iand .u64 (IntKind.u64.wrap (q_4 + (IntKind.u64.wrap ((iand .u64 q_3 3689348814741910323) + (iand .u64 (IntKind.u64.wrap ((iand .u64 q_2 6148914691236517205) + (iand .u64 x_1.v 6148914691236517205))) 3689348814741910323))))) 1085102592571150095) + q_5)) + q_6)) + q_7))) rfl rfl rfl rfl ?_
  refine g_v1 (t := 31) (u := (.int .u64 (IntKind.u64.wrap ((IntKind.u64.wrap ((IntKind.u64.wrap ((iand .u64 (IntKind.u64.wrap (q_4 + (IntKind.u64.wrap ((iand .u64 q_3 3689348814741910323) + (iand .u64 (IntKind.u64.wrap ((iand .u64 q_2 6148914691236517205) + (iand .u64 x_1.v 6148914691236517205))) 3689348814741910323))))) 1085102592571150095) + q_5)) + q_6)) + q_7)))) (.int .u64 (IntKind.u64.wrap ((IntKind.u64.wrap ((IntKind.u64.wrap ((iand .u64 (IntKind.u64.wrap (q_4 + (IntKind.u64.wrap ((iand .u64 q_3 3689348814741910323) + (iand .u64 (IntKind.u64.wrap ((iand .u64 q_2 6148914691236517205) + (iand .u64 x_1.v 6148914691236517205))) 3689348814741910323))))) 1085102592571150095) + q_5)) + q_6)) + q_7))) rfl rfl rfl ?_
  refine g_end ?_
  refine e_end ?_
  refine renew [(0, (.int .u64 (IntKind.u64.wrap ((IntKind.u64.wrap ((IntKind.u64.wrap ((iand .u64 (IntKind.u64.wrap (q_4 + (IntKind.u64.wrap ((iand .u64 q_3 3689348814741910323) + (iand .u64 (IntKind.u64.wrap ((iand .u64 q_2 6148914691236517205) + (iand .u64 x_1.v 6148914691236517205))) 3689348814741910323))))) 1085102592571150095) + q_5)) + q_6)) + q_7)))), (2, (.int .i64 0))] ⟨rfl, h2⟩ ?_
  rintro s ⟨h0, h2⟩
  refine .nsq ?_
  refine .seq ?_
  refine run_reg ?_
  refine e_end ?_
  refine g_v1 (t := 0) (u := (.int .u64 (IntKind.u64.wrap ((IntKind.u64.wrap ((IntKind.u64.wrap ((iand .u64 (IntKind.u64.wrap (q_4 + (IntKind.u64.wrap ((iand .u64 q_3 3689348814741910323) + (iand .u64 (IntKind.u64.wrap ((iand .u64 q_2 6148914691236517205) + (iand .u64 x_1.v 6148914691236517205))) 3689348814741910323))))) 1085102592571150095) + q_5)) + q_6)) + q_7)))) (.int .u64 (IntKind.u64.wrap ((IntKind.u64.wrap ((IntKind.u64.wrap ((iand .u64 (IntKind.u64.wrap (q_4 + (IntKind.u64.wrap ((iand .u64 q_3 3689348814741910323) + (iand .u64 (IntKind.u64.wrap ((iand .u64 q_2 6148914691236517205) + (iand .u64 x_1.v 6148914691236517205))) 3689348814741910323))))) 1085102592571150095) + q_5)) + q_6)) + q_7))) h0 rfl rfl ?_
  refine g_v1 (t := 32) (u := (.int .u64 (IntKind.u64.wrap ((IntKind.u64.wrap ((IntKind.u64.wrap ((iand .u64 (IntKind.u64.wrap (q_4 + (IntKind.u64.wrap ((iand .u64 q_3 3689348814741910323) + (iand .u64 (IntKind.u64.wrap ((iand .u64 q_2 6148914691236517205) + (iand .u64 x_1.v 6148914691236517205))) 3689348814741910323))))) 1085102592571150095) + q_5)) + q_6)) + q_7)))) (.int .i64 (w64 (IntKind.u64.wrap ((IntKind.u64.wrap ((IntKind.u64.wrap ((iand .u64 (IntKind.u64.wrap (q_4 + (IntKind.u64.wrap ((iand .u64 q_3 3689348814741910323) + (iand .u64 (IntKind.u64.wrap ((iand .u64 q_2 6148914691236517205) + (iand .u64 x_1.v 6148914691236517205))) 3689348814741910323))))) 1085102592571150095) + q_5)) + q_6)) + q_7)))) rfl rfl rfl ?_
  refine g_v1 (t := 33) (u := (.int .i64 (w64 (IntKind.u64.wrap ((IntKind.u64.wrap ((IntKind.u64.wrap ((iand .u64 (IntKind.u64.wrap (q_4 + (IntKind.u64.wrap ((iand .u64 q_3 3689348814741910323) + (iand .u64 (IntKind.u64.wrap ((iand .u64 q_2 6148914691236517205) + (iand .u64 x_1.v 6148914691236517205))) 3689348814741910323))))) 1085102592571150095) + q_5)) + q_6)) + q_7))))) (.int .i64 (iand .i64 (w64 (IntKind.u64.wrap ((IntKind.u64.wrap ((IntKind.u64.wrap ((iand .u64 (IntKind.u64.wrap (q_4 + (IntKind.u64.wrap ((iand .u64 q_3 3689348814741910323) + (iand .u64 (IntKind.u64.wrap ((iand .u64 q_2 6148914691236517205) + (iand .u64 x_1.v 6148914691236517205))) 3689348814741910323))))) 1085102592571150095) + q_5)) + q_6)) + q_7))) 127)) rfl rfl rfl ?_
  refine g_v1 (t := 34) (u := (.int .i64 (iand .i64 (w64 (IntKind.u64.wrap ((IntKind.u64.wrap ((IntKind.u64.wrap ((iand .u64 (IntKind.u64.wrap (q_4 + (IntKind.u64.wrap ((iand .u64 q_3 3689348814741910323) + (iand .u64 (IntKind.u64.wrap ((iand .u64 q_2 6148914691236517205) + (iand .u64 x_1.v 6148914691236517205))) 3689348814741910323))))) 1085102592571150095) + q_5)) + q_6)) + q_7))) 127))) (.int .i64 (iand .i64 (w64 (IntKind.u64.wrap ((IntKind.u64.wrap ((IntKind.u64.wrap ((iand .u64 (IntKind.u64.wrap (q_4 + (IntKind.u64.wrap ((iand .u64 q_3 3689348814741910323) + (iand .u64 (IntKind.u64.wrap ((iand .u64 q_2 6148914691236517205) + (iand .u64 x_1.v 6148914691236517205))) 3689348814741910323))))) 1085102592571150095) + q_5)) + q_6)) + q_7))) 127)) rfl rfl rfl ?_
  refine g_end ?_
  refine e_end ?_
  refine renew [(2, (.int .i64 (iand .i64 (w64 (IntKind.u64.wrap ((IntKind.u64.wrap ((IntKind.u64.wrap ((iand .u64 (IntKind.u64.wrap (q_4 + (IntKind.u64.wrap ((iand .u64 q_3 3689348814741910323) + (iand .u64 (IntKind.u64.wrap ((iand .u64 q_2 6148914691236517205) + (iand .u64 x_1.v 6148914691236517205))) 3689348814741910323))))) 1085102592571150095) + q_5)) + q_6)) + q_7))) 127)))] rfl ?_
  rintro s h2
  refine .nsq ?_
  refine .ret ?_
  have hr := Option.some.inj h
  subst hr
  exact rrA (res_tmp h2) rfl
end
def e109 (F : Nat) : Ent := ⟨109, da (fun (x : ((Kd .u64) × Unit)) => bits_OnesCount64 F x.1) (fun (r : Int) => (Enc.enc (r : Int))), 0, false, selF []⟩
theorem p109 {F : Nat} {x0 : (Kd .u64)} {r : Int} (h : bits_OnesCount64 F x0 = some r) : (e109 F).den [Enc.enc x0] = some (Enc.enc (r : Int)) := da_put (f := fun (x : ((Kd .u64) × Unit)) => bits_OnesCount64 F x.1) (t := fun (r : Int) => (Enc.enc (r : Int))) (x0, ()) h
theorem o109 {D : Den} {σ : Sig} {F : Nat} (hF : Fits2 Try.prog D σ) (H : H109 D σ F) : (e109 F).Ok Try.prog := by
  refine ok_of (f := 109) (show unk 109 = 109 from rfl) (fun args r h => ?_) ⟨Try.f109, Try.func109, rfl, rfl⟩
  obtain ⟨⟨x0, _⟩, y, rfl, hy, rfl⟩ := da_open h
  exact contract_run hF (by kernel_rfl) Try.func109 rfl c109 (show 1 ≤ Try.f109.ntmps by decide) (t109 H x0 _ rfl hy)
end Go.Zq
