/- Functions of the program as typed functions, and that the machine runs as they say (part 2). No further condition. -/
import Derived.Test.YthblbfcloccopaaK2
import Derived.Test.YthblbfcloccopaaProg
import Derived.Test.YthblbfcloccopaaChecked
import Derived.KernelRfl
import Derived.Test.YthblbfcloccopaaG1
set_option linter.unusedVariables false
set_option linter.unusedSimpArgs false
/- Functions of the program, as typed functions, and that the machine runs as they say. -/
namespace Go.Zq
open Go.Proofs
/- loop.example/g01109/spec.l2Reach -/
def A72_2 : AC := (AC.cond (O.t 16) AC.skip (AC.exit 0))
def A72_6 : AC := (AC.cond (O.t 22) AC.skip (AC.exit 2))
def A72_10 : AC := (AC.cond (O.t 37) AC.skip (AC.exit 4))
def A72_12 : AC := (AC.cond (O.t 49) (AC.reg [.frz 7] [(I.mk (some 50) none false (X.v (A.mov (O.t 7)))), (I.mk (some 51) none false (X.v (A.mov (O.t 1)))), (I.mk (some 52) none false (X.v (A.mov (O.t 9)))), (I.mk (some 53) none false (X.v (A.idx (O.t 51) (O.t 52) 1))), (I.mk (some 54) none false (X.v (A.load Sh.s (O.t 53)))), (I.mk (some 55) none false (X.call (O.k (V.fn 111 [] [])) [(O.t 50), (O.t 54)])), (I.mk (some 7) none false (X.v (A.mov (O.t 55))))] []) AC.skip)
def A72_13 : AC := (AC.reg [] [(I.mk (some 38) none false (X.v (A.mov (O.t 10)))), (I.mk (some 39) none false (X.v (A.bin BinOp.add (O.t 38) (O.k (V.int IntKind.i64 (Int.ofNat 1)))))), (I.mk (some 10) none false (X.v (A.mov (O.t 39))))] [])
def A72_11 : AC := (AC.seq (AC.block 5 (AC.seq (AC.reg [] [(I.mk (some 40) none false (X.v (A.load (Sh.ag [Sh.s, Sh.p]) (O.t 3)))), (I.mk (some 41) none false (X.v (A.mov (O.t 7)))), (I.mk (some 42) none false (X.v (A.mov (O.t 10)))), (I.mk (some 43) none false (X.v (A.idx (O.t 41) (O.t 42) 1))), (I.mk (some 44) none false (X.v (A.load Sh.s (O.t 43)))), (I.mk (some 45) none false (X.v (A.mov (O.t 1)))), (I.mk (some 46) none false (X.v (A.mov (O.t 9)))), (I.mk (some 47) none false (X.v (A.idx (O.t 45) (O.t 46) 1))), (I.mk (some 48) none false (X.v (A.load Sh.s (O.t 47)))), (I.mk (some 49) none false (X.call (O.k (V.fn 117 [] [])) [(O.t 40), (O.t 44), (O.t 48)]))] []) A72_12)) A72_13)
def A72_9 : AC := (AC.seq (AC.seq (AC.reg [] [(I.mk (some 25) none false (X.v (A.mov (O.t 10)))), (I.mk (some 26) none false (X.v (A.mov (O.t 7)))), (I.mk (some 27) none false (X.v (A.len (O.t 26)))), (I.mk (some 28) none false (X.v (A.bin BinOp.lss (O.t 25) (O.t 27)))), (I.mk (some 29) none false (X.v (A.mov (O.t 28)))), (I.mk (some 30) (some (29, true)) false (X.v (A.mov (O.t 7)))), (I.mk (some 31) (some (29, true)) false (X.v (A.mov (O.t 1)))), (I.mk (some 32) (some (29, true)) false (X.v (A.mov (O.t 9)))), (I.mk (some 33) (some (29, true)) false (X.v (A.idx (O.t 31) (O.t 32) 1))), (I.mk (some 34) (some (29, true)) false (X.v (A.load Sh.s (O.t 33)))), (I.mk (some 35) (some (29, true)) false (X.call (O.k (V.fn 98 [] [])) [(O.t 30), (O.t 34)])), (I.mk (some 36) (some (29, true)) false (X.v (A.un UnOp.not (O.t 35)))), (I.mk (some 37) none false (X.v (A.pick (O.t 29) (O.t 36) (O.k (V.bool false)))))] []) A72_10) A72_11)
def A72_8 : AC := (AC.block 4 (AC.loop A72_9))
def A72_14 : AC := (AC.reg [] [(I.mk (some 23) none false (X.v (A.mov (O.t 9)))), (I.mk (some 24) none false (X.v (A.bin BinOp.add (O.t 23) (O.k (V.int IntKind.i64 (Int.ofNat 1)))))), (I.mk (some 9) none false (X.v (A.mov (O.t 24))))] [])
def A72_7 : AC := (AC.seq (AC.block 3 (AC.seq (AC.reg [] [(I.mk (some 10) none false (X.v (A.mov (O.k (V.int IntKind.i64 (Int.ofNat 0))))))] []) A72_8)) A72_14)
def A72_5 : AC := (AC.seq (AC.seq (AC.reg [] [(I.mk (some 19) none false (X.v (A.mov (O.t 9)))), (I.mk (some 20) none false (X.v (A.mov (O.t 1)))), (I.mk (some 21) none false (X.v (A.len (O.t 20)))), (I.mk (some 22) none false (X.v (A.bin BinOp.lss (O.t 19) (O.t 21))))] []) A72_6) A72_7)
def A72_4 : AC := (AC.block 2 (AC.loop A72_5))
def A72_15 : AC := (AC.reg [] [(I.mk (some 17) none false (X.v (A.mov (O.t 8)))), (I.mk (some 18) none false (X.v (A.bin BinOp.add (O.t 17) (O.k (V.int IntKind.i64 (Int.ofNat 1)))))), (I.mk (some 8) none false (X.v (A.mov (O.t 18))))] [])
def A72_3 : AC := (AC.seq (AC.block 1 (AC.seq (AC.reg [] [(I.mk (some 9) none false (X.v (A.mov (O.k (V.int IntKind.i64 (Int.ofNat 0))))))] []) A72_4)) A72_15)
def A72_1 : AC := (AC.seq (AC.seq (AC.reg [] [(I.mk (some 13) none false (X.v (A.mov (O.t 8)))), (I.mk (some 14) none false (X.v (A.mov (O.t 1)))), (I.mk (some 15) none false (X.v (A.len (O.t 14)))), (I.mk (some 16) none false (X.v (A.bin BinOp.lss (O.t 13) (O.t 15))))] []) A72_2) A72_3)
def A72_16 : AC := (AC.seq (AC.reg [] [(I.mk (some 56) none false (X.v (A.mov (O.t 7)))), (I.mk (some 6) none false (X.v (A.mov (O.t 56))))] []) AC.ret)
def A72_19 : AC := (AC.block 0 (AC.loop A72_1))
def A72_18 : AC := (AC.seq (AC.seq (AC.reg [] [(I.mk (some 8) none false (X.v (A.mov (O.k (V.int IntKind.i64 (Int.ofNat 0))))))] []) A72_19) A72_16)
def A72_17 : AC := (AC.seq (AC.reg [.clr [12]] [(I.mk (some 11) none false (X.v (A.mov (O.t 2)))), (I.mk (some 12) none false (X.lit (V.int IntKind.i64 (Int.ofNat 0)) 1 [(0, 0, (O.t 11))])), (I.mk (some 7) none false (X.v (A.mov (O.t 12))))] [.home 12 7, .frz 7]) A72_18)
def A72 : AC := (AC.seq (AC.reg [.clr [3]] [(I.mk (some 3) none false (X.box (O.t 0))), (I.mk (some 6) none false (X.v (A.mov (O.k (V.sl Tok.nl Sh.s 0 [])))))] []) A72_17)
def an72 : List An := [{ id := 0, pre := [.clr [3]], ep := [], lin := [], sp := [] }, { id := 1, pre := [.clr [12]], ep := [.home 12 7, .frz 7], lin := [], sp := [] }, { id := 12, pre := [.frz 7], ep := [], lin := [], sp := [] }]
theorem c72 : cC Try.prog Try.f72.ntmps an72 (Try.f72.body.getD .skip) = some A72 := by kernel_rfl
structure H72 (D : Den) (σ : Sig) (F : Nat) : Prop where
  c98 : ∀ x0 x1 r, s_l1Has F x0 x1 = some r → D 98 [Enc.enc x0, Enc.enc x1] = some (Enc.enc (r : Bool))
  g98 : σ 98 = some (0, false)
  c117 : ∀ x0 x1 x2 r, s_l2Near F x0 x1 x2 = some r → D 117 [Enc.enc x0, Enc.enc x1, Enc.enc x2] = some (Enc.enc (r : Bool))
  g117 : σ 117 = some (0, false)
  c111 : ∀ x0 x1 r, s_l1Put F x0 x1 = some r → D 111 [Enc.enc x0, Enc.enc x1] = some (Enc.enc (r : (List Int)))
  g111 : σ 111 = some (0, true)
abbrev R72 (r : (List Int)) : (Nat → V) → Prop := RR Try.prog [.tmp 6] 0 true (Enc.enc (r : (List Int)))
section
variable {D : Den} {σ : Sig} {F : Nat} {r : (List Int)}
def s_l2Reach_j1 (F : Nat) (set_2 : (List Int)) (g_1 : (Int × (List (Int × Int)))) (round_130 : Int) (i_298 : Int) (k_354 : Int) (c1 : (List Int) → Int → Option (List Int)) (c10 : (List Int) → Int → Option (List Int)) (c13 : (List Int) → Int → Option (List Int)) (out_376 : (List Int)) : Option (List Int) :=
  c13 out_376 (w64 (k_354 + 1))
theorem t_f72_j1 (H : H72 D σ F) (set_2 : (List Int)) (g_1 : (Int × (List (Int × Int)))) (round_130 : Int) (i_298 : Int) (k_354 : Int) (c1 : (List Int) → Int → Option (List Int)) (Hc1 : ∀ (out_129 : (List Int)) (round_130 : Int) (s : Nat → V), Facts [(1, (Enc.enc (set_2 : List Int))), (3, (.ref (.bx 3) 0 [] (.agg [(.int .i64 g_1.1), (Enc.enc (g_1.2 : List (Int × Int)))]))), (6, (.sl .nl (Enc.shp Int) 0 [])), (7, (Enc.enc (out_129 : List Int))), (8, (.int .i64 round_130))] s → c1 out_129 round_130 = some r → Run D σ (R72 r) (.run A72_1 [.lp A72_1, .bk 0, .sq A72_16]) s) (c10 : (List Int) → Int → Option (List Int)) (Hc10 : ∀ (out_297 : (List Int)) (i_298 : Int) (s : Nat → V), Facts [(1, (Enc.enc (set_2 : List Int))), (3, (.ref (.bx 3) 0 [] (.agg [(.int .i64 g_1.1), (Enc.enc (g_1.2 : List (Int × Int)))]))), (6, (.sl .nl (Enc.shp Int) 0 [])), (7, (Enc.enc (out_297 : List Int))), (8, (.int .i64 round_130)), (9, (.int .i64 i_298))] s → c10 out_297 i_298 = some r → Run D σ (R72 r) (.run A72_5 [.lp A72_5, .bk 2, .bk 1, .sq A72_15, .lp A72_1, .bk 0, .sq A72_16]) s) (c13 : (List Int) → Int → Option (List Int)) (Hc13 : ∀ (out_353 : (List Int)) (k_354 : Int) (s : Nat → V), Facts [(1, (Enc.enc (set_2 : List Int))), (3, (.ref (.bx 3) 0 [] (.agg [(.int .i64 g_1.1), (Enc.enc (g_1.2 : List (Int × Int)))]))), (6, (.sl .nl (Enc.shp Int) 0 [])), (7, (Enc.enc (out_353 : List Int))), (8, (.int .i64 round_130)), (9, (.int .i64 i_298)), (10, (.int .i64 k_354))] s → c13 out_353 k_354 = some r → Run D σ (R72 r) (.run A72_9 [.lp A72_9, .bk 4, .bk 3, .sq A72_14, .lp A72_5, .bk 2, .bk 1, .sq A72_15, .lp A72_1, .bk 0, .sq A72_16]) s) (out_376 : (List Int)) (s : Nat → V) (hs : Facts [(1, (Enc.enc (set_2 : List Int))), (3, (.ref (.bx 3) 0 [] (.agg [(.int .i64 g_1.1), (Enc.enc (g_1.2 : List (Int × Int)))]))), (6, (.sl .nl (Enc.shp Int) 0 [])), (7, (Enc.enc (out_376 : List Int))), (8, (.int .i64 round_130)), (9, (.int .i64 i_298)), (10, (.int .i64 k_354))] s) (h : s_l2Reach_j1 F set_2 g_1 round_130 i_298 k_354 c1 c10 c13 out_376 = some r) : Run D σ (R72 r) (.nrm [.bk 5, .sq A72_13, .lp A72_9, .bk 4, .bk 3, .sq A72_14, .lp A72_5, .bk 2, .bk 1, .sq A72_15, .lp A72_1, .bk 0, .sq A72_16]) s := by
  unfold s_l2Reach_j1 at h
  obtain ⟨h1, h3, h6, h7, h8, h9, h10⟩ := hs
  refine .nbk ?_
  refine .nsq ?_
  refine run_reg ?_
  refine e_end ?_
  refine g_v1 (t := 10) (u := (.int .i64 k_354)) (.int .i64 k_354) h10 rfl rfl ?_
  refine g_v1 (t := 38) (u := (.int .i64 k_354)) (.int .i64 (w64 (k_354 + 1))) rfl rfl rfl ?_
  refine g_v1 (t := 39) (u := (.int .i64 (w64 (k_354 + 1)))) (.int .i64 (w64 (k_354 + 1))) rfl rfl rfl ?_
  refine g_end ?_
  refine e_end ?_
  refine renew [(1, (Enc.enc (set_2 : List Int))), (3, (.ref (.bx 3) 0 [] (.agg [(.int .i64 g_1.1), (Enc.enc (g_1.2 : List (Int × Int)))]))), (6, (.sl .nl (Enc.shp Int) 0 [])), (7, (Enc.enc (out_376 : List Int))), (8, (.int .i64 round_130)), (9, (.int .i64 i_298)), (10, (.int .i64 (w64 (k_354 + 1))))] ⟨h1, h3, h6, h7, h8, h9, rfl⟩ ?_
  rintro s ⟨h1, h3, h6, h7, h8, h9, h10⟩
  refine .nlp ?_
  exact Hc13 out_376 (w64 (k_354 + 1)) _ ⟨h1, h3, h6, h7, h8, h9, h10⟩ h
def s_l2Reach_j2 (F : Nat) (set_2 : (List Int)) (g_1 : (Int × (List (Int × Int)))) (out_353 : (List Int)) (round_130 : Int) (i_298 : Int) (k_354 : Int) (c1 : (List Int) → Int → Option (List Int)) (c10 : (List Int) → Int → Option (List Int)) (c13 : (List Int) → Int → Option (List Int)) (t37_370 : Bool) : Option (List Int) :=
  bif t37_370 then
    (idx out_353 k_354).bind fun e_371 =>
    (idx set_2 i_298).bind fun e_372 =>
    (s_l2Near F g_1 e_371 e_372).bind fun r_373 =>
    bif r_373 then
      (idx set_2 i_298).bind fun e_377 =>
      (s_l1Put F out_353 e_377).bind fun r_378 =>
      s_l2Reach_j1 F set_2 g_1 round_130 i_298 k_354 c1 c10 c13 r_378
    else
      s_l2Reach_j1 F set_2 g_1 round_130 i_298 k_354 c1 c10 c13 out_353
  else
    c10 out_353 (w64 (i_298 + 1))
theorem t_f72_j2 (H : H72 D σ F) (set_2 : (List Int)) (g_1 : (Int × (List (Int × Int)))) (out_353 : (List Int)) (round_130 : Int) (i_298 : Int) (k_354 : Int) (c1 : (List Int) → Int → Option (List Int)) (Hc1 : ∀ (out_129 : (List Int)) (round_130 : Int) (s : Nat → V), Facts [(1, (Enc.enc (set_2 : List Int))), (3, (.ref (.bx 3) 0 [] (.agg [(.int .i64 g_1.1), (Enc.enc (g_1.2 : List (Int × Int)))]))), (6, (.sl .nl (Enc.shp Int) 0 [])), (7, (Enc.enc (out_129 : List Int))), (8, (.int .i64 round_130))] s → c1 out_129 round_130 = some r → Run D σ (R72 r) (.run A72_1 [.lp A72_1, .bk 0, .sq A72_16]) s) (c10 : (List Int) → Int → Option (List Int)) (Hc10 : ∀ (out_297 : (List Int)) (i_298 : Int) (s : Nat → V), Facts [(1, (Enc.enc (set_2 : List Int))), (3, (.ref (.bx 3) 0 [] (.agg [(.int .i64 g_1.1), (Enc.enc (g_1.2 : List (Int × Int)))]))), (6, (.sl .nl (Enc.shp Int) 0 [])), (7, (Enc.enc (out_297 : List Int))), (8, (.int .i64 round_130)), (9, (.int .i64 i_298))] s → c10 out_297 i_298 = some r → Run D σ (R72 r) (.run A72_5 [.lp A72_5, .bk 2, .bk 1, .sq A72_15, .lp A72_1, .bk 0, .sq A72_16]) s) (c13 : (List Int) → Int → Option (List Int)) (Hc13 : ∀ (out_353 : (List Int)) (k_354 : Int) (s : Nat → V), Facts [(1, (Enc.enc (set_2 : List Int))), (3, (.ref (.bx 3) 0 [] (.agg [(.int .i64 g_1.1), (Enc.enc (g_1.2 : List (Int × Int)))]))), (6, (.sl .nl (Enc.shp Int) 0 [])), (7, (Enc.enc (out_353 : List Int))), (8, (.int .i64 round_130)), (9, (.int .i64 i_298)), (10, (.int .i64 k_354))] s → c13 out_353 k_354 = some r → Run D σ (R72 r) (.run A72_9 [.lp A72_9, .bk 4, .bk 3, .sq A72_14, .lp A72_5, .bk 2, .bk 1, .sq A72_15, .lp A72_1, .bk 0, .sq A72_16]) s) (t37_370 : Bool) (s : Nat → V) (hs : Facts [(1, (Enc.enc (set_2 : List Int))), (3, (.ref (.bx 3) 0 [] (.agg [(.int .i64 g_1.1), (Enc.enc (g_1.2 : List (Int × Int)))]))), (6, (.sl .nl (Enc.shp Int) 0 [])), (7, (Enc.enc (out_353 : List Int))), (8, (.int .i64 round_130)), (9, (.int .i64 i_298)), (10, (.int .i64 k_354)), (37, (.bool t37_370))] s) (h : s_l2Reach_j2 F set_2 g_1 out_353 round_130 i_298 k_354 c1 c10 c13 t37_370 = some r) : Run D σ (R72 r) (.nrm [.sq A72_10, .sq A72_11, .lp A72_9, .bk 4, .bk 3, .sq A72_14, .lp A72_5, .bk 2, .bk 1, .sq A72_15, .lp A72_1, .bk 0, .sq A72_16]) s := by
  unfold s_l2Reach_j2 at h
  obtain ⟨h1, h3, h6, h7, h8, h9, h10, h37⟩ := hs
  refine .nsq ?_
  refine run_cond (t := t37_370) h37 h (fun h => ?_) (fun h => ?_)
  · refine .skip ?_
    refine .nsq ?_
    refine .seq ?_
    refine .block ?_
    refine .seq ?_
    refine run_reg ?_
    refine e_end ?_
    refine g_v1 (t := 3) (u := (.ref (.bx 3) 0 [] (.agg [(.int .i64 g_1.1), (Enc.enc (g_1.2 : List (Int × Int)))]))) (.agg [(.int .i64 g_1.1), (Enc.enc (g_1.2 : List (Int × Int)))]) h3 rfl rfl ?_
    refine g_v1 (t := 7) (u := (Enc.enc (out_353 : List Int))) (Enc.enc (out_353 : List Int)) h7 rfl rfl ?_
    refine g_v1 (t := 10) (u := (.int .i64 k_354)) (.int .i64 k_354) h10 rfl rfl ?_
    obtain ⟨e_371, E_e_371, h⟩ := bind_some h
    refine g_v (.ref .sh 0 [] (.int .i64 e_371)) (ev_idx (t := .sh) (lo := 0) (xs := out_353) rfl rfl E_e_371 rfl rfl) ?_
    refine g_v1 (t := 43) (u := (.ref .sh 0 [] (.int .i64 e_371))) (.int .i64 e_371) rfl rfl rfl ?_
    refine g_v1 (t := 1) (u := (Enc.enc (set_2 : List Int))) (Enc.enc (set_2 : List Int)) h1 rfl rfl ?_
    refine g_v1 (t := 9) (u := (.int .i64 i_298)) (.int .i64 i_298) h9 rfl rfl ?_
    obtain ⟨e_372, E_e_372, h⟩ := bind_some h
    refine g_v (.ref .sh 0 [] (.int .i64 e_372)) (ev_idx (t := .sh) (lo := 0) (xs := set_2) rfl rfl E_e_372 rfl rfl) ?_
    refine g_v1 (t := 47) (u := (.ref .sh 0 [] (.int .i64 e_372))) (.int .i64 e_372) rfl rfl rfl ?_
    obtain ⟨r_373, E_r_373, h⟩ := bind_some h
    refine g_call (m := 0) (al := false) (r := (Enc.enc (r_373 : Bool))) [Enc.enc (g_1 : (Int × (List (Int × Int)))), Enc.enc (e_371 : Int), Enc.enc (e_372 : Int)] (ta_cons (v := (.agg [(.int .i64 g_1.1), (Enc.enc (g_1.2 : List (Int × Int)))])) rfl rfl (Enc.erase_enc (g_1 : (Int × (List (Int × Int))))) (ta_cons (v := (.int .i64 e_371)) rfl rfl rfl (ta_cons (v := (.int .i64 e_372)) rfl rfl rfl ta_nil))) (H.c117 _ _ _ _ E_r_373) H.g117 rfl rfl rfl rfl ?_
    refine g_end ?_
    refine e_end ?_
    refine renew [(1, (Enc.enc (set_2 : List Int))), (3, (.ref (.bx 3) 0 [] (.agg [(.int .i64 g_1.1), (Enc.enc (g_1.2 : List (Int × Int)))]))), (6, (.sl .nl (Enc.shp Int) 0 [])), (7, (Enc.enc (out_353 : List Int))), (8, (.int .i64 round_130)), (9, (.int .i64 i_298)), (10, (.int .i64 k_354)), (49, (.bool r_373))] ⟨h1, h3, h6, h7, h8, h9, h10, rfl⟩ ?_
    rintro s ⟨h1, h3, h6, h7, h8, h9, h10, h49⟩
    refine .nsq ?_
    refine run_cond (t := r_373) h49 h (fun h => ?_) (fun h => ?_)
    · refine run_reg ?_
      refine e_frz (x := 7) (v := (Enc.enc (out_353 : List Int))) [] (by exact h7) (Enc.toks_enc (out_353 : List Int)) (fun s_58 hg_58 => ?_)
      refine e_end ?_
      refine g_v1 (t := 7) (u := (Enc.enc (out_353 : List Int))) (Enc.enc (out_353 : List Int)) (hg_58 7 (Enc.enc (out_353 : List Int)) (Enc.enc (out_353 : List Int)) h7 (frz_none _)) rfl rfl ?_
      refine g_v1 (t := 1) (u := (Enc.enc (set_2 : List Int))) (Enc.enc (set_2 : List Int)) (hg_58 1 (Enc.enc (set_2 : List Int)) (Enc.enc (set_2 : List Int)) h1 (frz_none _)) rfl rfl ?_
      refine g_v1 (t := 9) (u := (.int .i64 i_298)) (.int .i64 i_298) (hg_58 9 (.int .i64 i_298) (.int .i64 i_298) h9 (frz_none _)) rfl rfl ?_
      obtain ⟨e_377, E_e_377, h⟩ := bind_some h
      refine g_v (.ref .sh 0 [] (.int .i64 e_377)) (ev_idx (t := .sh) (lo := 0) (xs := set_2) rfl rfl E_e_377 rfl rfl) ?_
      refine g_v1 (t := 53) (u := (.ref .sh 0 [] (.int .i64 e_377))) (.int .i64 e_377) rfl rfl rfl ?_
      obtain ⟨r_378, E_r_378, h⟩ := bind_some h
      refine g_call (m := 0) (al := true) (r := (Enc.enc (r_378 : (List Int)))) [Enc.enc (out_353 : (List Int)), Enc.enc (e_377 : Int)] (ta_cons (v := (Enc.enc (out_353 : List Int))) rfl rfl (Enc.erase_enc (out_353 : (List Int))) (ta_cons (v := (.int .i64 e_377)) rfl rfl rfl ta_nil)) (H.c111 _ _ _ E_r_378) H.g111 (hal_of (ht_cons (v := (Enc.enc (out_353 : List Int))) rfl rfl rfl (ht_cons (v := (.int .i64 e_377)) rfl rfl rfl ht_nil))) rfl rfl rfl ?_
      refine g_v1 (t := 55) (u := (Enc.enc (r_378 : List Int))) (Enc.enc (r_378 : List Int)) rfl rfl rfl ?_
      refine g_end ?_
      refine e_end ?_
      refine renew [(1, (Enc.enc (set_2 : List Int))), (3, (.ref (.bx 3) 0 [] (.agg [(.int .i64 g_1.1), (Enc.enc (g_1.2 : List (Int × Int)))]))), (6, (.sl .nl (Enc.shp Int) 0 [])), (7, (Enc.enc (r_378 : List Int))), (8, (.int .i64 round_130)), (9, (.int .i64 i_298)), (10, (.int .i64 k_354))] ⟨(hg_58 1 (Enc.enc (set_2 : List Int)) (Enc.enc (set_2 : List Int)) h1 (frz_none _)), (hg_58 3 (.ref (.bx 3) 0 [] (.agg [(.int .i64 g_1.1), (Enc.enc (g_1.2 : List (Int × Int)))])) (.ref (.bx 3) 0 [] (.agg [(.int .i64 g_1.1), (Enc.enc (g_1.2 : List (Int × Int)))])) h3 (frz_none _)), (hg_58 6 (.sl .nl (Enc.shp Int) 0 []) (.sl .nl (Enc.shp Int) 0 []) h6 (frz_none _)), rfl, (hg_58 8 (.int .i64 round_130) (.int .i64 round_130) h8 (frz_none _)), (hg_58 9 (.int .i64 i_298) (.int .i64 i_298) h9 (frz_none _)), (hg_58 10 (.int .i64 k_354) (.int .i64 k_354) h10 (frz_none _))⟩ ?_
      rintro s ⟨h1, h3, h6, h7, h8, h9, h10⟩
      exact t_f72_j1 H set_2 g_1 round_130 i_298 k_354 c1 Hc1 c10 Hc10 c13 Hc13 r_378 _ ⟨h1, h3, h6, h7, h8, h9, h10⟩ h
    · refine .skip ?_
      exact t_f72_j1 H set_2 g_1 round_130 i_298 k_354 c1 Hc1 c10 Hc10 c13 Hc13 out_353 _ ⟨h1, h3, h6, h7, h8, h9, h10⟩ h
  · refine .exit ?_
    refine .esq ?_
    refine .elp ?_
    refine .ebk ?_
    refine .nbk ?_
    refine .nsq ?_
    refine run_reg ?_
    refine e_end ?_
    refine g_v1 (t := 9) (u := (.int .i64 i_298)) (.int .i64 i_298) h9 rfl rfl ?_
    refine g_v1 (t := 23) (u := (.int .i64 i_298)) (.int .i64 (w64 (i_298 + 1))) rfl rfl rfl ?_
    refine g_v1 (t := 24) (u := (.int .i64 (w64 (i_298 + 1)))) (.int .i64 (w64 (i_298 + 1))) rfl rfl rfl ?_
    refine g_end ?_
    refine e_end ?_
    refine renew [(1, (Enc.enc (set_2 : List Int))), (3, (.ref (.bx 3) 0 [] (.agg [(.int .i64 g_1.1), (Enc.enc (g_1.2 : List (Int × Int)))]))), (6, (.sl .nl (Enc.shp Int) 0 [])), (7, (Enc.enc (out_353 : List Int))), (8, (.int .i64 round_130)), (9, (.int .i64 (w64 (i_298 + 1))))] ⟨h1, h3, h6, h7, h8, rfl⟩ ?_
    rintro s ⟨h1, h3, h6, h7, h8, h9⟩
    refine .nlp ?_
    exact Hc10 out_353 (w64 (i_298 + 1)) _ ⟨h1, h3, h6, h7, h8, h9⟩ h
def s_l2Reach_l1 (F : Nat) (set_2 : (List Int)) (g_1 : (Int × (List (Int × Int)))) (round_130 : Int) (i_298 : Int) (c1 : (List Int) → Int → Option (List Int)) (c10 : (List Int) → Int → Option (List Int)) : Nat → (List Int) → Int → Option (List Int)
  | 0, _, _ => none
  | k + 1, out_353, k_354 =>
    bif decide (k_354 < (out_353.length : Int)) then
      (idx set_2 i_298).bind fun e_379 =>
      (s_l1Has F out_353 e_379).bind fun r_380 =>
      s_l2Reach_j2 F set_2 g_1 out_353 round_130 i_298 k_354 c1 c10 (s_l2Reach_l1 F set_2 g_1 round_130 i_298 c1 c10 k) (!r_380)
    else
      s_l2Reach_j2 F set_2 g_1 out_353 round_130 i_298 k_354 c1 c10 (s_l2Reach_l1 F set_2 g_1 round_130 i_298 c1 c10 k) false
theorem t_f72_l1 (H : H72 D σ F) (set_2 : (List Int)) (g_1 : (Int × (List (Int × Int)))) (round_130 : Int) (i_298 : Int) (c1 : (List Int) → Int → Option (List Int)) (Hc1 : ∀ (out_129 : (List Int)) (round_130 : Int) (s : Nat → V), Facts [(1, (Enc.enc (set_2 : List Int))), (3, (.ref (.bx 3) 0 [] (.agg [(.int .i64 g_1.1), (Enc.enc (g_1.2 : List (Int × Int)))]))), (6, (.sl .nl (Enc.shp Int) 0 [])), (7, (Enc.enc (out_129 : List Int))), (8, (.int .i64 round_130))] s → c1 out_129 round_130 = some r → Run D σ (R72 r) (.run A72_1 [.lp A72_1, .bk 0, .sq A72_16]) s) (c10 : (List Int) → Int → Option (List Int)) (Hc10 : ∀ (out_297 : (List Int)) (i_298 : Int) (s : Nat → V), Facts [(1, (Enc.enc (set_2 : List Int))), (3, (.ref (.bx 3) 0 [] (.agg [(.int .i64 g_1.1), (Enc.enc (g_1.2 : List (Int × Int)))]))), (6, (.sl .nl (Enc.shp Int) 0 [])), (7, (Enc.enc (out_297 : List Int))), (8, (.int .i64 round_130)), (9, (.int .i64 i_298))] s → c10 out_297 i_298 = some r → Run D σ (R72 r) (.run A72_5 [.lp A72_5, .bk 2, .bk 1, .sq A72_15, .lp A72_1, .bk 0, .sq A72_16]) s) : ∀ (k : Nat) (out_353 : (List Int)) (k_354 : Int) (s : Nat → V), Facts [(1, (Enc.enc (set_2 : List Int))), (3, (.ref (.bx 3) 0 [] (.agg [(.int .i64 g_1.1), (Enc.enc (g_1.2 : List (Int × Int)))]))), (6, (.sl .nl (Enc.shp Int) 0 [])), (7, (Enc.enc (out_353 : List Int))), (8, (.int .i64 round_130)), (9, (.int .i64 i_298)), (10, (.int .i64 k_354))] s → s_l2Reach_l1 F set_2 g_1 round_130 i_298 c1 c10 k out_353 k_354 = some r → Run D σ (R72 r) (.run A72_9 [.lp A72_9, .bk 4, .bk 3, .sq A72_14, .lp A72_5, .bk 2, .bk 1, .sq A72_15, .lp A72_1, .bk 0, .sq A72_16]) s := by
  intro k
  induction k with
  | zero => intro out_353 k_354 s _ h; exact nomatch (h : (none : Option _) = some r)
  | succ k ih =>
    intro out_353 k_354 s hs h
    rw [s_l2Reach_l1] at h
    obtain ⟨h1, h3, h6, h7, h8, h9, h10⟩ := hs
    refine .seq ?_
    refine .seq ?_
    refine run_reg ?_
    refine e_end ?_
    refine g_v1 (t := 10) (u := (.int .i64 k_354)) (.int .i64 k_354) h10 rfl rfl ?_
    refine g_v1 (t := 7) (u := (Enc.enc (out_353 : List Int))) (Enc.enc (out_353 : List Int)) h7 rfl rfl ?_
    refine g_v (.int .i64 (out_353.length : Int)) (ev_len (xs := out_353) rfl) ?_
    refine g_v2 (t1 := 25) (t2 := 27) (u1 := (.int .i64 k_354)) (u2 := (.int .i64 (out_353.length : Int))) (.bool (decide (k_354 < (out_353.length : Int)))) rfl rfl rfl rfl ?_
    refine g_v1 (t := 28) (u := (.bool (decide (k_354 < (out_353.length : Int))))) (.bool (decide (k_354 < (out_353.length : Int)))) rfl rfl rfl ?_
    refine split_on (c := decide (k_354 < (out_353.length : Int))) h (fun hg5 h => ?_) (fun hg5 h => ?_)
    · refine g_yes (Eq.trans (b := .bool (decide (k_354 < (out_353.length : Int)))) rfl (congrArg V.bool hg5)) (g_v1 (t := 7) (u := (Enc.enc (out_353 : List Int))) (Enc.enc (out_353 : List Int)) h7 rfl rfl ?_)
      refine g_yes (Eq.trans (b := .bool (decide (k_354 < (out_353.length : Int)))) rfl (congrArg V.bool hg5)) (g_v1 (t := 1) (u := (Enc.enc (set_2 : List Int))) (Enc.enc (set_2 : List Int)) h1 rfl rfl ?_)
      refine g_yes (Eq.trans (b := .bool (decide (k_354 < (out_353.length : Int)))) rfl (congrArg V.bool hg5)) (g_v1 (t := 9) (u := (.int .i64 i_298)) (.int .i64 i_298) h9 rfl rfl ?_)
      obtain ⟨e_379, E_e_379, h⟩ := bind_some h
      refine g_yes (Eq.trans (b := .bool (decide (k_354 < (out_353.length : Int)))) rfl (congrArg V.bool hg5)) (g_v (.ref .sh 0 [] (.int .i64 e_379)) (ev_idx (t := .sh) (lo := 0) (xs := set_2) rfl rfl E_e_379 rfl rfl) ?_)
      refine g_yes (Eq.trans (b := .bool (decide (k_354 < (out_353.length : Int)))) rfl (congrArg V.bool hg5)) (g_v1 (t := 33) (u := (.ref .sh 0 [] (.int .i64 e_379))) (.int .i64 e_379) rfl rfl rfl ?_)
      obtain ⟨r_380, E_r_380, h⟩ := bind_some h
      refine g_yes (Eq.trans (b := .bool (decide (k_354 < (out_353.length : Int)))) rfl (congrArg V.bool hg5)) (g_call (m := 0) (al := false) (r := (Enc.enc (r_380 : Bool))) [Enc.enc (out_353 : (List Int)), Enc.enc (e_379 : Int)] (ta_cons (v := (Enc.enc (out_353 : List Int))) rfl rfl (Enc.erase_enc (out_353 : (List Int))) (ta_cons (v := (.int .i64 e_379)) rfl rfl rfl ta_nil)) (H.c98 _ _ _ E_r_380) H.g98 rfl rfl rfl rfl ?_)
      refine g_yes (Eq.trans (b := .bool (decide (k_354 < (out_353.length : Int)))) rfl (congrArg V.bool hg5)) (g_v1 (t := 35) (u := (.bool r_380)) (.bool (!r_380)) rfl rfl rfl ?_)
      refine g_v2 (t1 := 29) (t2 := 36) (u1 := (.bool true)) (u2 := (.bool (!r_380))) (.bool (!r_380)) (Eq.trans (b := .bool (decide (k_354 < (out_353.length : Int)))) rfl (congrArg V.bool hg5)) rfl rfl rfl ?_
      refine g_end ?_
      refine e_end ?_
      refine renew [(1, (Enc.enc (set_2 : List Int))), (3, (.ref (.bx 3) 0 [] (.agg [(.int .i64 g_1.1), (Enc.enc (g_1.2 : List (Int × Int)))]))), (6, (.sl .nl (Enc.shp Int) 0 [])), (7, (Enc.enc (out_353 : List Int))), (8, (.int .i64 round_130)), (9, (.int .i64 i_298)), (10, (.int .i64 k_354)), (37, (.bool (!r_380)))] ⟨h1, h3, h6, h7, h8, h9, h10, rfl⟩ ?_
      rintro s ⟨h1, h3, h6, h7, h8, h9, h10, h37⟩
      exact t_f72_j2 H set_2 g_1 out_353 round_130 i_298 k_354 c1 Hc1 c10 Hc10 (s_l2Reach_l1 F set_2 g_1 round_130 i_298 c1 c10 k) ih (!r_380) _ ⟨h1, h3, h6, h7, h8, h9, h10, h37⟩ h
    · refine g_no (Eq.trans (b := .bool (decide (k_354 < (out_353.length : Int)))) rfl (congrArg V.bool hg5)) ?_
      refine g_no (Eq.trans (b := .bool (decide (k_354 < (out_353.length : Int)))) rfl (congrArg V.bool hg5)) ?_
      refine g_no (Eq.trans (b := .bool (decide (k_354 < (out_353.length : Int)))) rfl (congrArg V.bool hg5)) ?_
      refine g_no (Eq.trans (b := .bool (decide (k_354 < (out_353.length : Int)))) rfl (congrArg V.bool hg5)) ?_
      refine g_no (Eq.trans (b := .bool (decide (k_354 < (out_353.length : Int)))) rfl (congrArg V.bool hg5)) ?_
      refine g_no (Eq.trans (b := .bool (decide (k_354 < (out_353.length : Int)))) rfl (congrArg V.bool hg5)) ?_
      refine g_no (Eq.trans (b := .bool (decide (k_354 < (out_353.length : Int)))) rfl (congrArg V.bool hg5)) ?_
      refine g_v2 (t1 := 29) (t2 := 36) (u1 := (.bool false)) (u2 := (.tup [])) (.bool false) (Eq.trans (b := .bool (decide (k_354 < (out_353.length : Int)))) rfl (congrArg V.bool hg5)) rfl rfl rfl ?_
      refine g_end ?_
      refine e_end ?_
      refine renew [(1, (Enc.enc (set_2 : List Int))), (3, (.ref (.bx 3) 0 [] (.agg [(.int .i64 g_1.1), (Enc.enc (g_1.2 : List (Int × Int)))]))), (6, (.sl .nl (Enc.shp Int) 0 [])), (7, (Enc.enc (out_353 : List Int))), (8, (.int .i64 round_130)), (9, (.int .i64 i_298)), (10, (.int .i64 k_354)), (37, (.bool false))] ⟨h1, h3, h6, h7, h8, h9, h10, rfl⟩ ?_
      rintro s ⟨h1, h3, h6, h7, h8, h9, h10, h37⟩
      exact t_f72_j2 H set_2 g_1 out_353 round_130 i_298 k_354 c1 Hc1 c10 Hc10 (s_l2Reach_l1 F set_2 g_1 round_130 i_298 c1 c10 k) ih false _ ⟨h1, h3, h6, h7, h8, h9, h10, h37⟩ h
def s_l2Reach_l2 (F : Nat) (set_2 : (List Int)) (g_1 : (Int × (List (Int × Int)))) (round_130 : Int) (c1 : (List Int) → Int → Option (List Int)) : Nat → (List Int) → Int → Option (List Int)
  | 0, _, _ => none
  | k + 1, out_297, i_298 =>
    bif decide (i_298 < (set_2.length : Int)) then
      s_l2Reach_l1 F set_2 g_1 round_130 i_298 c1 (s_l2Reach_l2 F set_2 g_1 round_130 c1 k) F out_297 0
    else
      c1 out_297 (w64 (round_130 + 1))
theorem t_f72_l2 (H : H72 D σ F) (set_2 : (List Int)) (g_1 : (Int × (List (Int × Int)))) (round_130 : Int) (c1 : (List Int) → Int → Option (List Int)) (Hc1 : ∀ (out_129 : (List Int)) (round_130 : Int) (s : Nat → V), Facts [(1, (Enc.enc (set_2 : List Int))), (3, (.ref (.bx 3) 0 [] (.agg [(.int .i64 g_1.1), (Enc.enc (g_1.2 : List (Int × Int)))]))), (6, (.sl .nl (Enc.shp Int) 0 [])), (7, (Enc.enc (out_129 : List Int))), (8, (.int .i64 round_130))] s → c1 out_129 round_130 = some r → Run D σ (R72 r) (.run A72_1 [.lp A72_1, .bk 0, .sq A72_16]) s) : ∀ (k : Nat) (out_297 : (List Int)) (i_298 : Int) (s : Nat → V), Facts [(1, (Enc.enc (set_2 : List Int))), (3, (.ref (.bx 3) 0 [] (.agg [(.int .i64 g_1.1), (Enc.enc (g_1.2 : List (Int × Int)))]))), (6, (.sl .nl (Enc.shp Int) 0 [])), (7, (Enc.enc (out_297 : List Int))), (8, (.int .i64 round_130)), (9, (.int .i64 i_298))] s → s_l2Reach_l2 F set_2 g_1 round_130 c1 k out_297 i_298 = some r → Run D σ (R72 r) (.run A72_5 [.lp A72_5, .bk 2, .bk 1, .sq A72_15, .lp A72_1, .bk 0, .sq A72_16]) s := by
  intro k
  induction k with
  | zero => intro out_297 i_298 s _ h; exact nomatch (h : (none : Option _) = some r)
  | succ k ih =>
    intro out_297 i_298 s hs h
    rw [s_l2Reach_l2] at h
    obtain ⟨h1, h3, h6, h7, h8, h9⟩ := hs
    refine .seq ?_
    refine .seq ?_
    refine run_reg ?_
    refine e_end ?_
    refine g_v1 (t := 9) (u := (.int .i64 i_298)) (.int .i64 i_298) h9 rfl rfl ?_
    refine g_v1 (t := 1) (u := (Enc.enc (set_2 : List Int))) (Enc.enc (set_2 : List Int)) h1 rfl rfl ?_
    refine g_v (.int .i64 (set_2.length : Int)) (ev_len (xs := set_2) rfl) ?_
    refine g_v2 (t1 := 19) (t2 := 21) (u1 := (.int .i64 i_298)) (u2 := (.int .i64 (set_2.length : Int))) (.bool (decide (i_298 < (set_2.length : Int)))) rfl rfl rfl rfl ?_
    refine g_end ?_
    refine e_end ?_
    refine renew [(1, (Enc.enc (set_2 : List Int))), (3, (.ref (.bx 3) 0 [] (.agg [(.int .i64 g_1.1), (Enc.enc (g_1.2 : List (Int × Int)))]))), (6, (.sl .nl (Enc.shp Int) 0 [])), (7, (Enc.enc (out_297 : List Int))), (8, (.int .i64 round_130)), (9, (.int .i64 i_298)), (22, (.bool (decide (i_298 < (set_2.length : Int)))))] ⟨h1, h3, h6, h7, h8, h9, rfl⟩ ?_
    rintro s ⟨h1, h3, h6, h7, h8, h9, h22⟩
    refine .nsq ?_
    refine run_cond (t := decide (i_298 < (set_2.length : Int))) h22 h (fun h => ?_) (fun h => ?_)
    · refine .skip ?_
      refine .nsq ?_
      refine .seq ?_
      refine .block ?_
      refine .seq ?_
      refine run_reg ?_
      refine e_end ?_
      refine g_v0 (.int .i64 0) rfl rfl ?_
      refine g_end ?_
      refine e_end ?_
      refine renew [(1, (Enc.enc (set_2 : List Int))), (3, (.ref (.bx 3) 0 [] (.agg [(.int .i64 g_1.1), (Enc.enc (g_1.2 : List (Int × Int)))]))), (6, (.sl .nl (Enc.shp Int) 0 [])), (7, (Enc.enc (out_297 : List Int))), (8, (.int .i64 round_130)), (9, (.int .i64 i_298)), (10, (.int .i64 0))] ⟨h1, h3, h6, h7, h8, h9, rfl⟩ ?_
      rintro s ⟨h1, h3, h6, h7, h8, h9, h10⟩
      refine .nsq ?_
      refine .block ?_
      refine .loop ?_
      exact t_f72_l1 H set_2 g_1 round_130 i_298 c1 Hc1 (s_l2Reach_l2 F set_2 g_1 round_130 c1 k) ih F out_297 0 _ ⟨h1, h3, h6, h7, h8, h9, h10⟩ h
    · refine .exit ?_
      refine .esq ?_
      refine .elp ?_
      refine .ebk ?_
      refine .nbk ?_
      refine .nsq ?_
      refine run_reg ?_
      refine e_end ?_
      refine g_v1 (t := 8) (u := (.int .i64 round_130)) (.int .i64 round_130) h8 rfl rfl ?_
      refine g_v1 (t := 17) (u := (.int .i64 round_130)) (.int .i64 (w64 (round_130 + 1))) rfl rfl rfl ?_
      refine g_v1 (t := 18) (u := (.int .i64 (w64 (round_130 + 1)))) (.int .i64 (w64 (round_130 + 1))) rfl rfl rfl ?_
      refine g_end ?_
      refine e_end ?_
      refine renew [(1, (Enc.enc (set_2 : List Int))), (3, (.ref (.bx 3) 0 [] (.agg [(.int .i64 g_1.1), (Enc.enc (g_1.2 : List (Int × Int)))]))), (6, (.sl .nl (Enc.shp Int) 0 [])), (7, (Enc.enc (out_297 : List Int))), (8, (.int .i64 (w64 (round_130 + 1))))] ⟨h1, h3, h6, h7, rfl⟩ ?_
      rintro s ⟨h1, h3, h6, h7, h8⟩
      refine .nlp ?_
      exact Hc1 out_297 (w64 (round_130 + 1)) _ ⟨h1, h3, h6, h7, h8⟩ h
def s_l2Reach_l3 (F : Nat) (set_2 : (List Int)) (g_1 : (Int × (List (Int × Int))))  : Nat → (List Int) → Int → Option (List Int)
  | 0, _, _ => none
  | k + 1, out_129, round_130 =>
    bif decide (round_130 < (set_2.length : Int)) then
      s_l2Reach_l2 F set_2 g_1 round_130 (s_l2Reach_l3 F set_2 g_1 k) F out_129 0
    else
      some out_129
theorem t_f72_l3 (H : H72 D σ F) (set_2 : (List Int)) (g_1 : (Int × (List (Int × Int))))  : ∀ (k : Nat) (out_129 : (List Int)) (round_130 : Int) (s : Nat → V), Facts [(1, (Enc.enc (set_2 : List Int))), (3, (.ref (.bx 3) 0 [] (.agg [(.int .i64 g_1.1), (Enc.enc (g_1.2 : List (Int × Int)))]))), (6, (.sl .nl (Enc.shp Int) 0 [])), (7, (Enc.enc (out_129 : List Int))), (8, (.int .i64 round_130))] s → s_l2Reach_l3 F set_2 g_1 k out_129 round_130 = some r → Run D σ (R72 r) (.run A72_1 [.lp A72_1, .bk 0, .sq A72_16]) s := by
  intro k
  induction k with
  | zero => intro out_129 round_130 s _ h; exact nomatch (h : (none : Option _) = some r)
  | succ k ih =>
    intro out_129 round_130 s hs h
    rw [s_l2Reach_l3] at h
    obtain ⟨h1, h3, h6, h7, h8⟩ := hs
    refine .seq ?_
    refine .seq ?_
    refine run_reg ?_
    refine e_end ?_
    refine g_v1 (t := 8) (u := (.int .i64 round_130)) (.int .i64 round_130) h8 rfl rfl ?_
    refine g_v1 (t := 1) (u := (Enc.enc (set_2 : List Int))) (Enc.enc (set_2 : List Int)) h1 rfl rfl ?_
    refine g_v (.int .i64 (set_2.length : Int)) (ev_len (xs := set_2) rfl) ?_
    refine g_v2 (t1 := 13) (t2 := 15) (u1 := (.int .i64 round_130)) (u2 := (.int .i64 (set_2.length : Int))) (.bool (decide (round_130 < (set_2.length : Int)))) rfl rfl rfl rfl ?_
    refine g_end ?_
    refine e_end ?_
    refine renew [(1, (Enc.enc (set_2 : List Int))), (3, (.ref (.bx 3) 0 [] (.agg [(.int .i64 g_1.1), (Enc.enc (g_1.2 : List (Int × Int)))]))), (6, (.sl .nl (Enc.shp Int) 0 [])), (7, (Enc.enc (out_129 : List Int))), (8, (.int .i64 round_130)), (16, (.bool (decide (round_130 < (set_2.length : Int)))))] ⟨h1, h3, h6, h7, h8, rfl⟩ ?_
    rintro s ⟨h1, h3, h6, h7, h8, h16⟩
    refine .nsq ?_
    refine run_cond (t := decide (round_130 < (set_2.length : Int))) h16 h (fun h => ?_) (fun h => ?_)
    · refine .skip ?_
      refine .nsq ?_
      refine .seq ?_
      refine .block ?_
      refine .seq ?_
      refine run_reg ?_
      refine e_end ?_
      refine g_v0 (.int .i64 0) rfl rfl ?_
      refine g_end ?_
      refine e_end ?_
      refine renew [(1, (Enc.enc (set_2 : List Int))), (3, (.ref (.bx 3) 0 [] (.agg [(.int .i64 g_1.1), (Enc.enc (g_1.2 : List (Int × Int)))]))), (6, (.sl .nl (Enc.shp Int) 0 [])), (7, (Enc.enc (out_129 : List Int))), (8, (.int .i64 round_130)), (9, (.int .i64 0))] ⟨h1, h3, h6, h7, h8, rfl⟩ ?_
      rintro s ⟨h1, h3, h6, h7, h8, h9⟩
      refine .nsq ?_
      refine .block ?_
      refine .loop ?_
      exact t_f72_l2 H set_2 g_1 round_130 (s_l2Reach_l3 F set_2 g_1 k) ih F out_129 0 _ ⟨h1, h3, h6, h7, h8, h9⟩ h
    · refine .exit ?_
      refine .esq ?_
      refine .elp ?_
      refine .ebk ?_
      refine .nsq ?_
      refine .seq ?_
      refine run_reg ?_
      refine e_end ?_
      refine g_v1 (t := 7) (u := (Enc.enc (out_129 : List Int))) (Enc.enc (out_129 : List Int)) h7 rfl rfl ?_
      refine g_v1 (t := 56) (u := (Enc.enc (out_129 : List Int))) (Enc.enc (out_129 : List Int)) rfl rfl rfl ?_
      refine g_end ?_
      refine e_end ?_
      refine renew [(6, (Enc.enc (out_129 : List Int)))] rfl ?_
      rintro s h6
      refine .nsq ?_
      refine .ret ?_
      have hr := Option.some.inj h
      subst hr
      exact rrA (res_tmp h6) (fin_ret1 (fin_enc (x := (out_129 : (List Int)))))
def s_l2Reach (F : Nat) (g_1 : (Int × (List (Int × Int)))) (set_2 : (List Int)) (x_3 : Int) : Option (List Int) :=
  s_l2Reach_l3 F set_2 g_1 F [x_3] 0
theorem t72 (H : H72 D σ F) (g_1 : (Int × (List (Int × Int)))) (set_2 : (List Int)) (x_3 : Int) (s : Nat → V) (hs : Facts [(0, (.agg [(.int .i64 g_1.1), (Enc.enc (g_1.2 : List (Int × Int)))])), (1, (Enc.enc (set_2 : List Int))), (2, (.int .i64 x_3))] s) (h : s_l2Reach F g_1 set_2 x_3 = some r) : Run D σ (R72 r) (.run A72 []) s := by
  unfold s_l2Reach at h
  obtain ⟨h0, h1, h2⟩ := hs
  refine .seq ?_
  refine run_reg ?_
  refine e_clr ?_
  refine e_end ?_
  refine g_box (.agg [(.int .i64 g_1.1), (Enc.enc (g_1.2 : List (Int × Int)))]) (rd_of (keep_clear (s := s) (pk := [3]) h0 rfl (map_agg (maps_cons rfl (maps_cons (Enc.map_enc _ (g_1.2 : List (Int × Int))) maps_nil)))) rfl) (gone_clear (s := s) (pk := [3]) (t := 3) rfl) rfl ?_
  refine g_v0 (.sl .nl (Enc.shp Int) 0 []) rfl rfl ?_
  refine g_end ?_
  refine e_end ?_
  refine renew [(1, (Enc.enc (set_2 : List Int))), (2, (.int .i64 x_3)), (3, (.ref (.bx 3) 0 [] (.agg [(.int .i64 g_1.1), (Enc.enc (g_1.2 : List (Int × Int)))]))), (6, (.sl .nl (Enc.shp Int) 0 []))] ⟨(keep_clear (s := s) (pk := [3]) h1 rfl (Enc.map_enc _ (set_2 : List Int))), (keep_clear (s := s) (pk := [3]) h2 rfl rfl), rfl, rfl⟩ ?_
  rintro s ⟨h1, h2, h3, h6⟩
  refine .nsq ?_
  refine .seq ?_
  refine run_reg ?_
  refine e_clr ?_
  refine e_end ?_
  refine g_v1 (t := 2) (u := (.int .i64 x_3)) (.int .i64 x_3) (keep_clear (s := s) (pk := [12]) h2 rfl rfl) rfl rfl ?_
  refine g_litL [(11, (.int .i64 x_3))] [Enc.enc (x_3 : Int)] rfl rfl rfl (gone_clear (s := s) (pk := [12]) (t := 12) rfl) ?_
  refine g_v1 (t := 12) (u := (encO (.at 12 []) (.of ([x_3] : List Int)))) (encO (.at 12 []) (.of ([x_3] : List Int))) rfl rfl rfl ?_
  refine g_end ?_
  refine e_home (r := 12) (x := 7) (v := (encO (.at 12 []) (.of ([x_3] : List Int)))) (by exact rfl) rfl (fun s_3 hg_3 => ?_)
  refine e_frz (x := 7) (v := (encO (.at 7 []) (.of ([x_3] : List Int)))) [(.at 7 [])] (by exact (hg_3 7 (encO (.at 12 []) (.of ([x_3] : List Int))) (encO (.at 7 []) (.of ([x_3] : List Int))) rfl (map_encO (r := 12) (p := []) rfl rfl))) toks_ownL (fun s_4 hg_4 => ?_)
  refine e_end ?_
  refine renew [(1, (Enc.enc (set_2 : List Int))), (3, (.ref (.bx 3) 0 [] (.agg [(.int .i64 g_1.1), (Enc.enc (g_1.2 : List (Int × Int)))]))), (6, (.sl .nl (Enc.shp Int) 0 [])), (7, (Enc.enc ([x_3] : List Int)))] ⟨(hg_4 1 (Enc.enc (set_2 : List Int)) (Enc.enc (set_2 : List Int)) (hg_3 1 (Enc.enc (set_2 : List Int)) (Enc.enc (set_2 : List Int)) (keep_clear (s := s) (pk := [12]) h1 rfl (Enc.map_enc _ (set_2 : List Int))) (Enc.map_enc _ (set_2 : List Int))) (Enc.frz_enc _ (set_2 : List Int))), (hg_4 3 (.ref (.bx 3) 0 [] (.agg [(.int .i64 g_1.1), (Enc.enc (g_1.2 : List (Int × Int)))])) (.ref (.bx 3) 0 [] (.agg [(.int .i64 g_1.1), (Enc.enc (g_1.2 : List (Int × Int)))])) (hg_3 3 (.ref (.bx 3) 0 [] (.agg [(.int .i64 g_1.1), (Enc.enc (g_1.2 : List (Int × Int)))])) (.ref (.bx 3) 0 [] (.agg [(.int .i64 g_1.1), (Enc.enc (g_1.2 : List (Int × Int)))])) (keep_clear (s := s) (pk := [12]) h3 rfl (map_bx rfl (map_agg (maps_cons rfl (maps_cons (Enc.map_enc _ (g_1.2 : List (Int × Int))) maps_nil))))) (map_bx rfl (map_agg (maps_cons rfl (maps_cons (Enc.map_enc _ (g_1.2 : List (Int × Int))) maps_nil))))) (frz_ref_ne rfl (frz_agg (frzs_cons rfl (frzs_cons (Enc.frz_enc _ (g_1.2 : List (Int × Int))) rfl))) rfl)), (hg_4 6 (.sl .nl (Enc.shp Int) 0 []) (.sl .nl (Enc.shp Int) 0 []) (hg_3 6 (.sl .nl (Enc.shp Int) 0 []) (.sl .nl (Enc.shp Int) 0 []) (keep_clear (s := s) (pk := [12]) h6 rfl rfl) rfl) rfl), (hg_4 7 (encO (.at 7 []) (.of ([x_3] : List Int))) (Enc.enc ([x_3] : List Int)) (hg_3 7 (encO (.at 12 []) (.of ([x_3] : List Int))) (encO (.at 7 []) (.of ([x_3] : List Int))) rfl (map_encO (r := 12) (p := []) rfl rfl)) frz_own)⟩ ?_
  rintro s ⟨h1, h3, h6, h7⟩
  refine .nsq ?_
  refine .seq ?_
  refine .seq ?_
  refine run_reg ?_
  refine e_end ?_
  refine g_v0 (.int .i64 0) rfl rfl ?_
  refine g_end ?_
  refine e_end ?_
  refine renew [(1, (Enc.enc (set_2 : List Int))), (3, (.ref (.bx 3) 0 [] (.agg [(.int .i64 g_1.1), (Enc.enc (g_1.2 : List (Int × Int)))]))), (6, (.sl .nl (Enc.shp Int) 0 [])), (7, (Enc.enc ([x_3] : List Int))), (8, (.int .i64 0))] ⟨h1, h3, h6, h7, rfl⟩ ?_
  rintro s ⟨h1, h3, h6, h7, h8⟩
  refine .nsq ?_
  refine .block ?_
  refine .loop ?_
  exact t_f72_l3 H set_2 g_1 F [x_3] 0 _ ⟨h1, h3, h6, h7, h8⟩ h
end
def e72 (F : Nat) : Ent := ⟨72, dn3 (s_l2Reach F) (fun (r : (List Int)) => (Enc.enc (r : (List Int)))), 0, true⟩
theorem o72 {D : Den} {σ : Sig} {F : Nat} (hF : Fits2 Try.prog D σ) (H : H72 D σ F) : (e72 F).Ok Try.prog := by
  refine ⟨fun args r h => ?_, ⟨Try.f72, Try.func72, rfl, rfl⟩⟩
  obtain ⟨x0, x1, x2, y, rfl, hy, rfl⟩ := dn3_open h
  exact contract_run hF (by kernel_rfl) Try.func72 rfl c72 (show 3 ≤ Try.f72.ntmps by decide) (t72 H x0 x1 x2 _ ⟨rfl, rfl, rfl⟩ hy)
/- loop.example/g01109/spec.l6Spread -/
def A138_2 : AC := (AC.cond (O.t 18) AC.skip (AC.exit 0))
def A138_4 : AC := (AC.cond (O.t 24) (AC.reg [.clr [27, 28]] [(I.mk (some 25) none false (X.v (A.mov (O.t 7)))), (I.mk (some 26) none false (X.v (A.mov (O.t 9)))), (I.mk (some 27) none false (X.lit (V.int IntKind.i64 (Int.ofNat 0)) 1 [(0, 0, (O.t 26))])), (I.mk (some 28) none false (X.app Sh.s (O.t 25) (O.t 27))), (I.mk (some 7) none false (X.v (A.mov (O.t 28))))] [.home 28 7]) AC.skip)
def A138_5 : AC := (AC.reg [] [(I.mk (some 19) none false (X.v (A.mov (O.t 9)))), (I.mk (some 20) none false (X.v (A.bin BinOp.add (O.t 19) (O.k (V.int IntKind.i64 (Int.ofNat 1)))))), (I.mk (some 9) none false (X.v (A.mov (O.t 20))))] [])
def A138_3 : AC := (AC.seq (AC.block 1 (AC.seq (AC.reg [] [(I.mk (some 21) none false (X.v (A.mov (O.t 1)))), (I.mk (some 22) none false (X.v (A.mov (O.t 9)))), (I.mk (some 23) none false (X.call (O.k (V.fn 98 [] [])) [(O.t 21), (O.t 22)])), (I.mk (some 24) none false (X.v (A.un UnOp.not (O.t 23))))] []) A138_4)) A138_5)
def A138_1 : AC := (AC.seq (AC.seq (AC.reg [] [(I.mk (some 15) none false (X.v (A.mov (O.t 9)))), (I.mk (some 16) none false (X.v (A.fld (O.t 3) 0 0))), (I.mk (some 17) none false (X.v (A.load Sh.s (O.t 16)))), (I.mk (some 18) none false (X.v (A.bin BinOp.lss (O.t 15) (O.t 17))))] []) A138_2) A138_3)
def A138_9 : AC := (AC.cond (O.t 32) AC.skip (AC.exit 2))
def A138_11 : AC := (AC.cond (O.t 40) (AC.exit 3) AC.skip)
def A138_16 : AC := (AC.cond (O.t 51) AC.skip (AC.exit 4))
def A138_18 : AC := (AC.reg [] [(I.mk (some 52) none false (X.v (A.mov (O.t 12)))), (I.mk (some 53) none false (X.v (A.bin BinOp.add (O.t 52) (O.k (V.int IntKind.i64 (Int.ofNat 1)))))), (I.mk (some 12) none false (X.v (A.mov (O.t 53))))] [])
def A138_17 : AC := (AC.seq (AC.block 5 (AC.reg [.frz 8] [(I.mk (some 54) none false (X.v (A.mov (O.t 8)))), (I.mk (some 55) none false (X.v (A.mov (O.t 11)))), (I.mk (some 56) none false (X.v (A.mov (O.t 12)))), (I.mk (some 57) none false (X.v (A.idx (O.t 55) (O.t 56) 1))), (I.mk (some 58) none false (X.v (A.load Sh.s (O.t 57)))), (I.mk (some 59) none false (X.call (O.k (V.fn 111 [] [])) [(O.t 54), (O.t 58)])), (I.mk (some 8) none false (X.v (A.mov (O.t 59))))] [])) A138_18)
def A138_15 : AC := (AC.seq (AC.seq (AC.reg [] [(I.mk (some 48) none false (X.v (A.mov (O.t 12)))), (I.mk (some 49) none false (X.v (A.mov (O.t 11)))), (I.mk (some 50) none false (X.v (A.len (O.t 49)))), (I.mk (some 51) none false (X.v (A.bin BinOp.lss (O.t 48) (O.t 50))))] []) A138_16) A138_17)
def A138_14 : AC := (AC.block 4 (AC.loop A138_15))
def A138_13 : AC := (AC.seq (AC.reg [] [(I.mk (some 12) none false (X.v (A.mov (O.k (V.int IntKind.i64 (Int.ofNat 0))))))] []) A138_14)
def A138_12 : AC := (AC.seq (AC.reg [.frz 7] [(I.mk (some 41) none false (X.v (A.load (Sh.ag [Sh.s, Sh.p]) (O.t 3)))), (I.mk (some 42) none false (X.v (A.mov (O.t 7)))), (I.mk (some 43) none false (X.v (A.mov (O.t 2)))), (I.mk (some 44) none false (X.v (A.mov (O.t 10)))), (I.mk (some 45) none false (X.v (A.idx (O.t 43) (O.t 44) 1))), (I.mk (some 46) none false (X.v (A.load Sh.s (O.t 45)))), (I.mk (some 47) none false (X.call (O.k (V.fn 72 [] [])) [(O.t 41), (O.t 42), (O.t 46)])), (I.mk (some 11) none false (X.v (A.mov (O.t 47))))] []) A138_13)
def A138_19 : AC := (AC.reg [] [(I.mk (some 33) none false (X.v (A.mov (O.t 10)))), (I.mk (some 34) none false (X.v (A.bin BinOp.add (O.t 33) (O.k (V.int IntKind.i64 (Int.ofNat 1)))))), (I.mk (some 10) none false (X.v (A.mov (O.t 34))))] [])
def A138_10 : AC := (AC.seq (AC.block 3 (AC.seq (AC.seq (AC.reg [] [(I.mk (some 35) none false (X.v (A.mov (O.t 1)))), (I.mk (some 36) none false (X.v (A.mov (O.t 2)))), (I.mk (some 37) none false (X.v (A.mov (O.t 10)))), (I.mk (some 38) none false (X.v (A.idx (O.t 36) (O.t 37) 1))), (I.mk (some 39) none false (X.v (A.load Sh.s (O.t 38)))), (I.mk (some 40) none false (X.call (O.k (V.fn 98 [] [])) [(O.t 35), (O.t 39)]))] []) A138_11) A138_12)) A138_19)
def A138_8 : AC := (AC.seq (AC.seq (AC.reg [] [(I.mk (some 29) none false (X.v (A.mov (O.t 10)))), (I.mk (some 30) none false (X.v (A.mov (O.t 2)))), (I.mk (some 31) none false (X.v (A.len (O.t 30)))), (I.mk (some 32) none false (X.v (A.bin BinOp.lss (O.t 29) (O.t 31))))] []) A138_9) A138_10)
def A138_7 : AC := (AC.block 2 (AC.loop A138_8))
def A138_20 : AC := (AC.seq (AC.reg [] [(I.mk (some 60) none false (X.v (A.mov (O.t 8)))), (I.mk (some 6) none false (X.v (A.mov (O.t 60))))] []) AC.ret)
def A138_6 : AC := (AC.seq (AC.seq (AC.reg [] [(I.mk (some 10) none false (X.v (A.mov (O.k (V.int IntKind.i64 (Int.ofNat 0))))))] [.frz 7, .frz 8]) A138_7) A138_20)
def A138_23 : AC := (AC.block 0 (AC.loop A138_1))
def A138_22 : AC := (AC.seq (AC.seq (AC.reg [] [(I.mk (some 9) none false (X.v (A.mov (O.k (V.int IntKind.i64 (Int.ofNat 0))))))] []) A138_23) A138_6)
def A138_21 : AC := (AC.seq (AC.reg [.clr [13, 14]] [(I.mk (some 13) none false (X.lit (V.int IntKind.i64 (Int.ofNat 0)) 0 [])), (I.mk (some 14) none false (X.lit (V.int IntKind.i64 (Int.ofNat 0)) 0 [])), (I.mk (some 7) none false (X.v (A.mov (O.t 13)))), (I.mk (some 8) none false (X.v (A.mov (O.t 14))))] [.home 13 7, .home 14 8]) A138_22)
def A138 : AC := (AC.seq (AC.reg [.clr [3]] [(I.mk (some 3) none false (X.box (O.t 0))), (I.mk (some 6) none false (X.v (A.mov (O.k (V.sl Tok.nl Sh.s 0 [])))))] []) A138_21)
def an138 : List An := [{ id := 0, pre := [.clr [3]], ep := [], lin := [], sp := [] }, { id := 1, pre := [.clr [13, 14]], ep := [.home 13 7, .home 14 8], lin := [], sp := [] }, { id := 6, pre := [.clr [27, 28]], ep := [.home 28 7], lin := [], sp := [] }, { id := 7, pre := [], ep := [.frz 7, .frz 8], lin := [], sp := [] }, { id := 11, pre := [.frz 7], ep := [], lin := [], sp := [] }, { id := 15, pre := [.frz 8], ep := [], lin := [], sp := [] }]
theorem c138 : cC Try.prog Try.f138.ntmps an138 (Try.f138.body.getD .skip) = some A138 := by kernel_rfl
structure H138 (D : Den) (σ : Sig) (F : Nat) : Prop where
  c98 : ∀ x0 x1 r, s_l1Has F x0 x1 = some r → D 98 [Enc.enc x0, Enc.enc x1] = some (Enc.enc (r : Bool))
  g98 : σ 98 = some (0, false)
  c72 : ∀ x0 x1 x2 r, s_l2Reach F x0 x1 x2 = some r → D 72 [Enc.enc x0, Enc.enc x1, Enc.enc x2] = some (Enc.enc (r : (List Int)))
  g72 : σ 72 = some (0, true)
  c111 : ∀ x0 x1 r, s_l1Put F x0 x1 = some r → D 111 [Enc.enc x0, Enc.enc x1] = some (Enc.enc (r : (List Int)))
  g111 : σ 111 = some (0, true)
abbrev R138 (r : (List Int)) : (Nat → V) → Prop := RR Try.prog [.tmp 6] 0 true (Enc.enc (r : (List Int)))
section
variable {D : Den} {σ : Sig} {F : Nat} {r : (List Int)}
def s_l6Spread_j1 (F : Nat) (searchers_2 : (List Int)) (before_3 : (List Int)) (g_1 : (Int × (List (Int × Int)))) (x_9 : Int) (c1 : (List Int) → Int → Option (List Int)) (free_16 : (List Int)) : Option (List Int) :=
  c1 free_16 (w64 (x_9 + 1))
theorem t_f138_j1 (H : H138 D σ F) (searchers_2 : (List Int)) (before_3 : (List Int)) (g_1 : (Int × (List (Int × Int)))) (x_9 : Int) (c1 : (List Int) → Int → Option (List Int)) (Hc1 : ∀ (free_8 : (List Int)) (x_9 : Int) (s : Nat → V), Facts [(1, (Enc.enc (searchers_2 : List Int))), (2, (Enc.enc (before_3 : List Int))), (3, (.ref (.bx 3) 0 [] (.agg [(.int .i64 g_1.1), (Enc.enc (g_1.2 : List (Int × Int)))]))), (6, (.sl .nl (Enc.shp Int) 0 [])), (7, (encO (.at 7 []) (.of (free_8 : List Int)))), (8, (encO (.at 8 []) (.of ([] : List Int)))), (9, (.int .i64 x_9))] s → c1 free_8 x_9 = some r → Run D σ (R138 r) (.run A138_1 [.lp A138_1, .bk 0, .sq A138_6]) s) (free_16 : (List Int)) (s : Nat → V) (hs : Facts [(1, (Enc.enc (searchers_2 : List Int))), (2, (Enc.enc (before_3 : List Int))), (3, (.ref (.bx 3) 0 [] (.agg [(.int .i64 g_1.1), (Enc.enc (g_1.2 : List (Int × Int)))]))), (6, (.sl .nl (Enc.shp Int) 0 [])), (7, (encO (.at 7 []) (.of (free_16 : List Int)))), (8, (encO (.at 8 []) (.of ([] : List Int)))), (9, (.int .i64 x_9))] s) (h : s_l6Spread_j1 F searchers_2 before_3 g_1 x_9 c1 free_16 = some r) : Run D σ (R138 r) (.nrm [.bk 1, .sq A138_5, .lp A138_1, .bk 0, .sq A138_6]) s := by
  unfold s_l6Spread_j1 at h
  obtain ⟨h1, h2, h3, h6, h7, h8, h9⟩ := hs
  refine .nbk ?_
  refine .nsq ?_
  refine run_reg ?_
  refine e_end ?_
  refine g_v1 (t := 9) (u := (.int .i64 x_9)) (.int .i64 x_9) h9 rfl rfl ?_
  refine g_v1 (t := 19) (u := (.int .i64 x_9)) (.int .i64 (w64 (x_9 + 1))) rfl rfl rfl ?_
  refine g_v1 (t := 20) (u := (.int .i64 (w64 (x_9 + 1)))) (.int .i64 (w64 (x_9 + 1))) rfl rfl rfl ?_
  refine g_end ?_
  refine e_end ?_
  refine renew [(1, (Enc.enc (searchers_2 : List Int))), (2, (Enc.enc (before_3 : List Int))), (3, (.ref (.bx 3) 0 [] (.agg [(.int .i64 g_1.1), (Enc.enc (g_1.2 : List (Int × Int)))]))), (6, (.sl .nl (Enc.shp Int) 0 [])), (7, (encO (.at 7 []) (.of (free_16 : List Int)))), (8, (encO (.at 8 []) (.of ([] : List Int)))), (9, (.int .i64 (w64 (x_9 + 1))))] ⟨h1, h2, h3, h6, h7, h8, rfl⟩ ?_
  rintro s ⟨h1, h2, h3, h6, h7, h8, h9⟩
  refine .nlp ?_
  exact Hc1 free_16 (w64 (x_9 + 1)) _ ⟨h1, h2, h3, h6, h7, h8, h9⟩ h
def s_l6Spread_l1 (F : Nat) (searchers_2 : (List Int)) (before_3 : (List Int)) (g_1 : (Int × (List (Int × Int)))) (free_8 : (List Int)) (i_31 : Int) (r_47 : (List Int)) (c2 : (List Int) → Int → Option (List Int)) : Nat → (List Int) → Int → Option (List Int)
  | 0, _, _ => none
  | k + 1, out_50, k_51 =>
    bif decide (k_51 < (r_47.length : Int)) then
      (idx r_47 k_51).bind fun e_54 =>
      (s_l1Put F out_50 e_54).bind fun r_55 =>
      (s_l6Spread_l1 F searchers_2 before_3 g_1 free_8 i_31 r_47 c2 k) r_55 (w64 (k_51 + 1))
    else
      c2 out_50 (w64 (i_31 + 1))
theorem t_f138_l1 (H : H138 D σ F) (searchers_2 : (List Int)) (before_3 : (List Int)) (g_1 : (Int × (List (Int × Int)))) (free_8 : (List Int)) (i_31 : Int) (r_47 : (List Int)) (c2 : (List Int) → Int → Option (List Int)) (Hc2 : ∀ (out_30 : (List Int)) (i_31 : Int) (s : Nat → V), Facts [(1, (Enc.enc (searchers_2 : List Int))), (2, (Enc.enc (before_3 : List Int))), (3, (.ref (.bx 3) 0 [] (.agg [(.int .i64 g_1.1), (Enc.enc (g_1.2 : List (Int × Int)))]))), (6, (.sl .nl (Enc.shp Int) 0 [])), (7, (Enc.enc (free_8 : List Int))), (8, (Enc.enc (out_30 : List Int))), (10, (.int .i64 i_31))] s → c2 out_30 i_31 = some r → Run D σ (R138 r) (.run A138_8 [.lp A138_8, .bk 2, .sq A138_20]) s) : ∀ (k : Nat) (out_50 : (List Int)) (k_51 : Int) (s : Nat → V), Facts [(1, (Enc.enc (searchers_2 : List Int))), (2, (Enc.enc (before_3 : List Int))), (3, (.ref (.bx 3) 0 [] (.agg [(.int .i64 g_1.1), (Enc.enc (g_1.2 : List (Int × Int)))]))), (6, (.sl .nl (Enc.shp Int) 0 [])), (7, (Enc.enc (free_8 : List Int))), (8, (Enc.enc (out_50 : List Int))), (10, (.int .i64 i_31)), (11, (Enc.enc (r_47 : List Int))), (12, (.int .i64 k_51))] s → s_l6Spread_l1 F searchers_2 before_3 g_1 free_8 i_31 r_47 c2 k out_50 k_51 = some r → Run D σ (R138 r) (.run A138_15 [.lp A138_15, .bk 4, .bk 3, .sq A138_19, .lp A138_8, .bk 2, .sq A138_20]) s := by
  intro k
  induction k with
  | zero => intro out_50 k_51 s _ h; exact nomatch (h : (none : Option _) = some r)
  | succ k ih =>
    intro out_50 k_51 s hs h
    rw [s_l6Spread_l1] at h
    obtain ⟨h1, h2, h3, h6, h7, h8, h10, h11, h12⟩ := hs
    refine .seq ?_
    refine .seq ?_
    refine run_reg ?_
    refine e_end ?_
    refine g_v1 (t := 12) (u := (.int .i64 k_51)) (.int .i64 k_51) h12 rfl rfl ?_
    refine g_v1 (t := 11) (u := (Enc.enc (r_47 : List Int))) (Enc.enc (r_47 : List Int)) h11 rfl rfl ?_
    refine g_v (.int .i64 (r_47.length : Int)) (ev_len (xs := r_47) rfl) ?_
    refine g_v2 (t1 := 48) (t2 := 50) (u1 := (.int .i64 k_51)) (u2 := (.int .i64 (r_47.length : Int))) (.bool (decide (k_51 < (r_47.length : Int)))) rfl rfl rfl rfl ?_
    refine g_end ?_
    refine e_end ?_
    refine renew [(1, (Enc.enc (searchers_2 : List Int))), (2, (Enc.enc (before_3 : List Int))), (3, (.ref (.bx 3) 0 [] (.agg [(.int .i64 g_1.1), (Enc.enc (g_1.2 : List (Int × Int)))]))), (6, (.sl .nl (Enc.shp Int) 0 [])), (7, (Enc.enc (free_8 : List Int))), (8, (Enc.enc (out_50 : List Int))), (10, (.int .i64 i_31)), (11, (Enc.enc (r_47 : List Int))), (12, (.int .i64 k_51)), (51, (.bool (decide (k_51 < (r_47.length : Int)))))] ⟨h1, h2, h3, h6, h7, h8, h10, h11, h12, rfl⟩ ?_
    rintro s ⟨h1, h2, h3, h6, h7, h8, h10, h11, h12, h51⟩
    refine .nsq ?_
    refine run_cond (t := decide (k_51 < (r_47.length : Int))) h51 h (fun h => ?_) (fun h => ?_)
    · refine .skip ?_
      refine .nsq ?_
      refine .seq ?_
      refine .block ?_
      refine run_reg ?_
      refine e_frz (x := 8) (v := (Enc.enc (out_50 : List Int))) [] (by exact h8) (Enc.toks_enc (out_50 : List Int)) (fun s_36 hg_36 => ?_)
      refine e_end ?_
      refine g_v1 (t := 8) (u := (Enc.enc (out_50 : List Int))) (Enc.enc (out_50 : List Int)) (hg_36 8 (Enc.enc (out_50 : List Int)) (Enc.enc (out_50 : List Int)) h8 (frz_none _)) rfl rfl ?_
      refine g_v1 (t := 11) (u := (Enc.enc (r_47 : List Int))) (Enc.enc (r_47 : List Int)) (hg_36 11 (Enc.enc (r_47 : List Int)) (Enc.enc (r_47 : List Int)) h11 (frz_none _)) rfl rfl ?_
      refine g_v1 (t := 12) (u := (.int .i64 k_51)) (.int .i64 k_51) (hg_36 12 (.int .i64 k_51) (.int .i64 k_51) h12 (frz_none _)) rfl rfl ?_
      obtain ⟨e_54, E_e_54, h⟩ := bind_some h
      refine g_v (.ref .sh 0 [] (.int .i64 e_54)) (ev_idx (t := .sh) (lo := 0) (xs := r_47) rfl rfl E_e_54 rfl rfl) ?_
      refine g_v1 (t := 57) (u := (.ref .sh 0 [] (.int .i64 e_54))) (.int .i64 e_54) rfl rfl rfl ?_
      obtain ⟨r_55, E_r_55, h⟩ := bind_some h
      refine g_call (m := 0) (al := true) (r := (Enc.enc (r_55 : (List Int)))) [Enc.enc (out_50 : (List Int)), Enc.enc (e_54 : Int)] (ta_cons (v := (Enc.enc (out_50 : List Int))) rfl rfl (Enc.erase_enc (out_50 : (List Int))) (ta_cons (v := (.int .i64 e_54)) rfl rfl rfl ta_nil)) (H.c111 _ _ _ E_r_55) H.g111 (hal_of (ht_cons (v := (Enc.enc (out_50 : List Int))) rfl rfl rfl (ht_cons (v := (.int .i64 e_54)) rfl rfl rfl ht_nil))) rfl rfl rfl ?_
      refine g_v1 (t := 59) (u := (Enc.enc (r_55 : List Int))) (Enc.enc (r_55 : List Int)) rfl rfl rfl ?_
      refine g_end ?_
      refine e_end ?_
      refine renew [(1, (Enc.enc (searchers_2 : List Int))), (2, (Enc.enc (before_3 : List Int))), (3, (.ref (.bx 3) 0 [] (.agg [(.int .i64 g_1.1), (Enc.enc (g_1.2 : List (Int × Int)))]))), (6, (.sl .nl (Enc.shp Int) 0 [])), (7, (Enc.enc (free_8 : List Int))), (8, (Enc.enc (r_55 : List Int))), (10, (.int .i64 i_31)), (11, (Enc.enc (r_47 : List Int))), (12, (.int .i64 k_51))] ⟨(hg_36 1 (Enc.enc (searchers_2 : List Int)) (Enc.enc (searchers_2 : List Int)) h1 (frz_none _)), (hg_36 2 (Enc.enc (before_3 : List Int)) (Enc.enc (before_3 : List Int)) h2 (frz_none _)), (hg_36 3 (.ref (.bx 3) 0 [] (.agg [(.int .i64 g_1.1), (Enc.enc (g_1.2 : List (Int × Int)))])) (.ref (.bx 3) 0 [] (.agg [(.int .i64 g_1.1), (Enc.enc (g_1.2 : List (Int × Int)))])) h3 (frz_none _)), (hg_36 6 (.sl .nl (Enc.shp Int) 0 []) (.sl .nl (Enc.shp Int) 0 []) h6 (frz_none _)), (hg_36 7 (Enc.enc (free_8 : List Int)) (Enc.enc (free_8 : List Int)) h7 (frz_none _)), rfl, (hg_36 10 (.int .i64 i_31) (.int .i64 i_31) h10 (frz_none _)), (hg_36 11 (Enc.enc (r_47 : List Int)) (Enc.enc (r_47 : List Int)) h11 (frz_none _)), (hg_36 12 (.int .i64 k_51) (.int .i64 k_51) h12 (frz_none _))⟩ ?_
      rintro s ⟨h1, h2, h3, h6, h7, h8, h10, h11, h12⟩
      refine .nbk ?_
      refine .nsq ?_
      refine run_reg ?_
      refine e_end ?_
      refine g_v1 (t := 12) (u := (.int .i64 k_51)) (.int .i64 k_51) h12 rfl rfl ?_
      refine g_v1 (t := 52) (u := (.int .i64 k_51)) (.int .i64 (w64 (k_51 + 1))) rfl rfl rfl ?_
      refine g_v1 (t := 53) (u := (.int .i64 (w64 (k_51 + 1)))) (.int .i64 (w64 (k_51 + 1))) rfl rfl rfl ?_
      refine g_end ?_
      refine e_end ?_
      refine renew [(1, (Enc.enc (searchers_2 : List Int))), (2, (Enc.enc (before_3 : List Int))), (3, (.ref (.bx 3) 0 [] (.agg [(.int .i64 g_1.1), (Enc.enc (g_1.2 : List (Int × Int)))]))), (6, (.sl .nl (Enc.shp Int) 0 [])), (7, (Enc.enc (free_8 : List Int))), (8, (Enc.enc (r_55 : List Int))), (10, (.int .i64 i_31)), (11, (Enc.enc (r_47 : List Int))), (12, (.int .i64 (w64 (k_51 + 1))))] ⟨h1, h2, h3, h6, h7, h8, h10, h11, rfl⟩ ?_
      rintro s ⟨h1, h2, h3, h6, h7, h8, h10, h11, h12⟩
      refine .nlp ?_
      exact ih r_55 (w64 (k_51 + 1)) _ ⟨h1, h2, h3, h6, h7, h8, h10, h11, h12⟩ h
    · refine .exit ?_
      refine .esq ?_
      refine .elp ?_
      refine .ebk ?_
      refine .nbk ?_
      refine .nsq ?_
      refine run_reg ?_
      refine e_end ?_
      refine g_v1 (t := 10) (u := (.int .i64 i_31)) (.int .i64 i_31) h10 rfl rfl ?_
      refine g_v1 (t := 33) (u := (.int .i64 i_31)) (.int .i64 (w64 (i_31 + 1))) rfl rfl rfl ?_
      refine g_v1 (t := 34) (u := (.int .i64 (w64 (i_31 + 1)))) (.int .i64 (w64 (i_31 + 1))) rfl rfl rfl ?_
      refine g_end ?_
      refine e_end ?_
      refine renew [(1, (Enc.enc (searchers_2 : List Int))), (2, (Enc.enc (before_3 : List Int))), (3, (.ref (.bx 3) 0 [] (.agg [(.int .i64 g_1.1), (Enc.enc (g_1.2 : List (Int × Int)))]))), (6, (.sl .nl (Enc.shp Int) 0 [])), (7, (Enc.enc (free_8 : List Int))), (8, (Enc.enc (out_50 : List Int))), (10, (.int .i64 (w64 (i_31 + 1))))] ⟨h1, h2, h3, h6, h7, h8, rfl⟩ ?_
      rintro s ⟨h1, h2, h3, h6, h7, h8, h10⟩
      refine .nlp ?_
      exact Hc2 out_50 (w64 (i_31 + 1)) _ ⟨h1, h2, h3, h6, h7, h8, h10⟩ h
def s_l6Spread_l2 (F : Nat) (searchers_2 : (List Int)) (before_3 : (List Int)) (g_1 : (Int × (List (Int × Int)))) (free_8 : (List Int))  : Nat → (List Int) → Int → Option (List Int)
  | 0, _, _ => none
  | k + 1, out_30, i_31 =>
    bif decide (i_31 < (before_3.length : Int)) then
      (idx before_3 i_31).bind fun e_44 =>
      (s_l1Has F searchers_2 e_44).bind fun r_45 =>
      bif r_45 then
        (s_l6Spread_l2 F searchers_2 before_3 g_1 free_8 k) out_30 (w64 (i_31 + 1))
      else
        (idx before_3 i_31).bind fun e_46 =>
        (s_l2Reach F g_1 free_8 e_46).bind fun r_47 =>
        s_l6Spread_l1 F searchers_2 before_3 g_1 free_8 i_31 r_47 (s_l6Spread_l2 F searchers_2 before_3 g_1 free_8 k) F out_30 0
    else
      some out_30
theorem t_f138_l2 (H : H138 D σ F) (searchers_2 : (List Int)) (before_3 : (List Int)) (g_1 : (Int × (List (Int × Int)))) (free_8 : (List Int))  : ∀ (k : Nat) (out_30 : (List Int)) (i_31 : Int) (s : Nat → V), Facts [(1, (Enc.enc (searchers_2 : List Int))), (2, (Enc.enc (before_3 : List Int))), (3, (.ref (.bx 3) 0 [] (.agg [(.int .i64 g_1.1), (Enc.enc (g_1.2 : List (Int × Int)))]))), (6, (.sl .nl (Enc.shp Int) 0 [])), (7, (Enc.enc (free_8 : List Int))), (8, (Enc.enc (out_30 : List Int))), (10, (.int .i64 i_31))] s → s_l6Spread_l2 F searchers_2 before_3 g_1 free_8 k out_30 i_31 = some r → Run D σ (R138 r) (.run A138_8 [.lp A138_8, .bk 2, .sq A138_20]) s := by
  intro k
  induction k with
  | zero => intro out_30 i_31 s _ h; exact nomatch (h : (none : Option _) = some r)
  | succ k ih =>
    intro out_30 i_31 s hs h
    rw [s_l6Spread_l2] at h
    obtain ⟨h1, h2, h3, h6, h7, h8, h10⟩ := hs
    refine .seq ?_
    refine .seq ?_
    refine run_reg ?_
    refine e_end ?_
    refine g_v1 (t := 10) (u := (.int .i64 i_31)) (.int .i64 i_31) h10 rfl rfl ?_
    refine g_v1 (t := 2) (u := (Enc.enc (before_3 : List Int))) (Enc.enc (before_3 : List Int)) h2 rfl rfl ?_
    refine g_v (.int .i64 (before_3.length : Int)) (ev_len (xs := before_3) rfl) ?_
    refine g_v2 (t1 := 29) (t2 := 31) (u1 := (.int .i64 i_31)) (u2 := (.int .i64 (before_3.length : Int))) (.bool (decide (i_31 < (before_3.length : Int)))) rfl rfl rfl rfl ?_
    refine g_end ?_
    refine e_end ?_
    refine renew [(1, (Enc.enc (searchers_2 : List Int))), (2, (Enc.enc (before_3 : List Int))), (3, (.ref (.bx 3) 0 [] (.agg [(.int .i64 g_1.1), (Enc.enc (g_1.2 : List (Int × Int)))]))), (6, (.sl .nl (Enc.shp Int) 0 [])), (7, (Enc.enc (free_8 : List Int))), (8, (Enc.enc (out_30 : List Int))), (10, (.int .i64 i_31)), (32, (.bool (decide (i_31 < (before_3.length : Int)))))] ⟨h1, h2, h3, h6, h7, h8, h10, rfl⟩ ?_
    rintro s ⟨h1, h2, h3, h6, h7, h8, h10, h32⟩
    refine .nsq ?_
    refine run_cond (t := decide (i_31 < (before_3.length : Int))) h32 h (fun h => ?_) (fun h => ?_)
    · refine .skip ?_
      refine .nsq ?_
      refine .seq ?_
      refine .block ?_
      refine .seq ?_
      refine .seq ?_
      refine run_reg ?_
      refine e_end ?_
      refine g_v1 (t := 1) (u := (Enc.enc (searchers_2 : List Int))) (Enc.enc (searchers_2 : List Int)) h1 rfl rfl ?_
      refine g_v1 (t := 2) (u := (Enc.enc (before_3 : List Int))) (Enc.enc (before_3 : List Int)) h2 rfl rfl ?_
      refine g_v1 (t := 10) (u := (.int .i64 i_31)) (.int .i64 i_31) h10 rfl rfl ?_
      obtain ⟨e_44, E_e_44, h⟩ := bind_some h
      refine g_v (.ref .sh 0 [] (.int .i64 e_44)) (ev_idx (t := .sh) (lo := 0) (xs := before_3) rfl rfl E_e_44 rfl rfl) ?_
      refine g_v1 (t := 38) (u := (.ref .sh 0 [] (.int .i64 e_44))) (.int .i64 e_44) rfl rfl rfl ?_
      obtain ⟨r_45, E_r_45, h⟩ := bind_some h
      refine g_call (m := 0) (al := false) (r := (Enc.enc (r_45 : Bool))) [Enc.enc (searchers_2 : (List Int)), Enc.enc (e_44 : Int)] (ta_cons (v := (Enc.enc (searchers_2 : List Int))) rfl rfl (Enc.erase_enc (searchers_2 : (List Int))) (ta_cons (v := (.int .i64 e_44)) rfl rfl rfl ta_nil)) (H.c98 _ _ _ E_r_45) H.g98 rfl rfl rfl rfl ?_
      refine g_end ?_
      refine e_end ?_
      refine renew [(1, (Enc.enc (searchers_2 : List Int))), (2, (Enc.enc (before_3 : List Int))), (3, (.ref (.bx 3) 0 [] (.agg [(.int .i64 g_1.1), (Enc.enc (g_1.2 : List (Int × Int)))]))), (6, (.sl .nl (Enc.shp Int) 0 [])), (7, (Enc.enc (free_8 : List Int))), (8, (Enc.enc (out_30 : List Int))), (10, (.int .i64 i_31)), (40, (.bool r_45))] ⟨h1, h2, h3, h6, h7, h8, h10, rfl⟩ ?_
      rintro s ⟨h1, h2, h3, h6, h7, h8, h10, h40⟩
      refine .nsq ?_
      refine run_cond (t := r_45) h40 h (fun h => ?_) (fun h => ?_)
      · refine .exit ?_
        refine .esq ?_
        refine .ebk ?_
        refine .nsq ?_
        refine run_reg ?_
        refine e_end ?_
        refine g_v1 (t := 10) (u := (.int .i64 i_31)) (.int .i64 i_31) h10 rfl rfl ?_
        refine g_v1 (t := 33) (u := (.int .i64 i_31)) (.int .i64 (w64 (i_31 + 1))) rfl rfl rfl ?_
        refine g_v1 (t := 34) (u := (.int .i64 (w64 (i_31 + 1)))) (.int .i64 (w64 (i_31 + 1))) rfl rfl rfl ?_
        refine g_end ?_
        refine e_end ?_
        refine renew [(1, (Enc.enc (searchers_2 : List Int))), (2, (Enc.enc (before_3 : List Int))), (3, (.ref (.bx 3) 0 [] (.agg [(.int .i64 g_1.1), (Enc.enc (g_1.2 : List (Int × Int)))]))), (6, (.sl .nl (Enc.shp Int) 0 [])), (7, (Enc.enc (free_8 : List Int))), (8, (Enc.enc (out_30 : List Int))), (10, (.int .i64 (w64 (i_31 + 1))))] ⟨h1, h2, h3, h6, h7, h8, rfl⟩ ?_
        rintro s ⟨h1, h2, h3, h6, h7, h8, h10⟩
        refine .nlp ?_
        exact ih out_30 (w64 (i_31 + 1)) _ ⟨h1, h2, h3, h6, h7, h8, h10⟩ h
      · refine .skip ?_
        refine .nsq ?_
        refine .seq ?_
        refine run_reg ?_
        refine e_frz (x := 7) (v := (Enc.enc (free_8 : List Int))) [] (by exact h7) (Enc.toks_enc (free_8 : List Int)) (fun s_33 hg_33 => ?_)
        refine e_end ?_
        refine g_v1 (t := 3) (u := (.ref (.bx 3) 0 [] (.agg [(.int .i64 g_1.1), (Enc.enc (g_1.2 : List (Int × Int)))]))) (.agg [(.int .i64 g_1.1), (Enc.enc (g_1.2 : List (Int × Int)))]) (hg_33 3 (.ref (.bx 3) 0 [] (.agg [(.int .i64 g_1.1), (Enc.enc (g_1.2 : List (Int × Int)))])) (.ref (.bx 3) 0 [] (.agg [(.int .i64 g_1.1), (Enc.enc (g_1.2 : List (Int × Int)))])) h3 (frz_none _)) rfl rfl ?_
        refine g_v1 (t := 7) (u := (Enc.enc (free_8 : List Int))) (Enc.enc (free_8 : List Int)) (hg_33 7 (Enc.enc (free_8 : List Int)) (Enc.enc (free_8 : List Int)) h7 (frz_none _)) rfl rfl ?_
        refine g_v1 (t := 2) (u := (Enc.enc (before_3 : List Int))) (Enc.enc (before_3 : List Int)) (hg_33 2 (Enc.enc (before_3 : List Int)) (Enc.enc (before_3 : List Int)) h2 (frz_none _)) rfl rfl ?_
        refine g_v1 (t := 10) (u := (.int .i64 i_31)) (.int .i64 i_31) (hg_33 10 (.int .i64 i_31) (.int .i64 i_31) h10 (frz_none _)) rfl rfl ?_
        obtain ⟨e_46, E_e_46, h⟩ := bind_some h
        refine g_v (.ref .sh 0 [] (.int .i64 e_46)) (ev_idx (t := .sh) (lo := 0) (xs := before_3) rfl rfl E_e_46 rfl rfl) ?_
        refine g_v1 (t := 45) (u := (.ref .sh 0 [] (.int .i64 e_46))) (.int .i64 e_46) rfl rfl rfl ?_
        obtain ⟨r_47, E_r_47, h⟩ := bind_some h
        refine g_call (m := 0) (al := true) (r := (Enc.enc (r_47 : (List Int)))) [Enc.enc (g_1 : (Int × (List (Int × Int)))), Enc.enc (free_8 : (List Int)), Enc.enc (e_46 : Int)] (ta_cons (v := (.agg [(.int .i64 g_1.1), (Enc.enc (g_1.2 : List (Int × Int)))])) rfl rfl (Enc.erase_enc (g_1 : (Int × (List (Int × Int))))) (ta_cons (v := (Enc.enc (free_8 : List Int))) rfl rfl (Enc.erase_enc (free_8 : (List Int))) (ta_cons (v := (.int .i64 e_46)) rfl rfl rfl ta_nil))) (H.c72 _ _ _ _ E_r_47) H.g72 (hal_of (ht_cons (v := (.agg [(.int .i64 g_1.1), (Enc.enc (g_1.2 : List (Int × Int)))])) rfl rfl rfl (ht_cons (v := (Enc.enc (free_8 : List Int))) rfl rfl rfl (ht_cons (v := (.int .i64 e_46)) rfl rfl rfl ht_nil)))) rfl rfl rfl ?_
        refine g_v1 (t := 47) (u := (Enc.enc (r_47 : List Int))) (Enc.enc (r_47 : List Int)) rfl rfl rfl ?_
        refine g_end ?_
        refine e_end ?_
        refine renew [(1, (Enc.enc (searchers_2 : List Int))), (2, (Enc.enc (before_3 : List Int))), (3, (.ref (.bx 3) 0 [] (.agg [(.int .i64 g_1.1), (Enc.enc (g_1.2 : List (Int × Int)))]))), (6, (.sl .nl (Enc.shp Int) 0 [])), (7, (Enc.enc (free_8 : List Int))), (8, (Enc.enc (out_30 : List Int))), (10, (.int .i64 i_31)), (11, (Enc.enc (r_47 : List Int)))] ⟨(hg_33 1 (Enc.enc (searchers_2 : List Int)) (Enc.enc (searchers_2 : List Int)) h1 (frz_none _)), (hg_33 2 (Enc.enc (before_3 : List Int)) (Enc.enc (before_3 : List Int)) h2 (frz_none _)), (hg_33 3 (.ref (.bx 3) 0 [] (.agg [(.int .i64 g_1.1), (Enc.enc (g_1.2 : List (Int × Int)))])) (.ref (.bx 3) 0 [] (.agg [(.int .i64 g_1.1), (Enc.enc (g_1.2 : List (Int × Int)))])) h3 (frz_none _)), (hg_33 6 (.sl .nl (Enc.shp Int) 0 []) (.sl .nl (Enc.shp Int) 0 []) h6 (frz_none _)), (hg_33 7 (Enc.enc (free_8 : List Int)) (Enc.enc (free_8 : List Int)) h7 (frz_none _)), (hg_33 8 (Enc.enc (out_30 : List Int)) (Enc.enc (out_30 : List Int)) h8 (frz_none _)), (hg_33 10 (.int .i64 i_31) (.int .i64 i_31) h10 (frz_none _)), rfl⟩ ?_
        rintro s ⟨h1, h2, h3, h6, h7, h8, h10, h11⟩
        refine .nsq ?_
        refine .seq ?_
        refine run_reg ?_
        refine e_end ?_
        refine g_v0 (.int .i64 0) rfl rfl ?_
        refine g_end ?_
        refine e_end ?_
        refine renew [(1, (Enc.enc (searchers_2 : List Int))), (2, (Enc.enc (before_3 : List Int))), (3, (.ref (.bx 3) 0 [] (.agg [(.int .i64 g_1.1), (Enc.enc (g_1.2 : List (Int × Int)))]))), (6, (.sl .nl (Enc.shp Int) 0 [])), (7, (Enc.enc (free_8 : List Int))), (8, (Enc.enc (out_30 : List Int))), (10, (.int .i64 i_31)), (11, (Enc.enc (r_47 : List Int))), (12, (.int .i64 0))] ⟨h1, h2, h3, h6, h7, h8, h10, h11, rfl⟩ ?_
        rintro s ⟨h1, h2, h3, h6, h7, h8, h10, h11, h12⟩
        refine .nsq ?_
        refine .block ?_
        refine .loop ?_
        exact t_f138_l1 H searchers_2 before_3 g_1 free_8 i_31 r_47 (s_l6Spread_l2 F searchers_2 before_3 g_1 free_8 k) ih F out_30 0 _ ⟨h1, h2, h3, h6, h7, h8, h10, h11, h12⟩ h
    · refine .exit ?_
      refine .esq ?_
      refine .elp ?_
      refine .ebk ?_
      refine .nsq ?_
      refine .seq ?_
      refine run_reg ?_
      refine e_end ?_
      refine g_v1 (t := 8) (u := (Enc.enc (out_30 : List Int))) (Enc.enc (out_30 : List Int)) h8 rfl rfl ?_
      refine g_v1 (t := 60) (u := (Enc.enc (out_30 : List Int))) (Enc.enc (out_30 : List Int)) rfl rfl rfl ?_
      refine g_end ?_
      refine e_end ?_
      refine renew [(6, (Enc.enc (out_30 : List Int)))] rfl ?_
      rintro s h6
      refine .nsq ?_
      refine .ret ?_
      have hr := Option.some.inj h
      subst hr
      exact rrA (res_tmp h6) (fin_ret1 (fin_enc (x := (out_30 : (List Int)))))
def s_l6Spread_l3 (F : Nat) (searchers_2 : (List Int)) (before_3 : (List Int)) (g_1 : (Int × (List (Int × Int))))  : Nat → (List Int) → Int → Option (List Int)
  | 0, _, _ => none
  | k + 1, free_8, x_9 =>
    bif decide (x_9 < g_1.1) then
      (s_l1Has F searchers_2 x_9).bind fun r_14 =>
      bif (!r_14) then
        (appL free_8 [x_9]).bind fun ap_17 =>
        s_l6Spread_j1 F searchers_2 before_3 g_1 x_9 (s_l6Spread_l3 F searchers_2 before_3 g_1 k) ap_17
      else
        s_l6Spread_j1 F searchers_2 before_3 g_1 x_9 (s_l6Spread_l3 F searchers_2 before_3 g_1 k) free_8
    else
      s_l6Spread_l2 F searchers_2 before_3 g_1 free_8 F [] 0
theorem t_f138_l3 (H : H138 D σ F) (searchers_2 : (List Int)) (before_3 : (List Int)) (g_1 : (Int × (List (Int × Int))))  : ∀ (k : Nat) (free_8 : (List Int)) (x_9 : Int) (s : Nat → V), Facts [(1, (Enc.enc (searchers_2 : List Int))), (2, (Enc.enc (before_3 : List Int))), (3, (.ref (.bx 3) 0 [] (.agg [(.int .i64 g_1.1), (Enc.enc (g_1.2 : List (Int × Int)))]))), (6, (.sl .nl (Enc.shp Int) 0 [])), (7, (encO (.at 7 []) (.of (free_8 : List Int)))), (8, (encO (.at 8 []) (.of ([] : List Int)))), (9, (.int .i64 x_9))] s → s_l6Spread_l3 F searchers_2 before_3 g_1 k free_8 x_9 = some r → Run D σ (R138 r) (.run A138_1 [.lp A138_1, .bk 0, .sq A138_6]) s := by
  intro k
  induction k with
  | zero => intro free_8 x_9 s _ h; exact nomatch (h : (none : Option _) = some r)
  | succ k ih =>
    intro free_8 x_9 s hs h
    rw [s_l6Spread_l3] at h
    obtain ⟨h1, h2, h3, h6, h7, h8, h9⟩ := hs
    refine .seq ?_
    refine .seq ?_
    refine run_reg ?_
    refine e_end ?_
    refine g_v1 (t := 9) (u := (.int .i64 x_9)) (.int .i64 x_9) h9 rfl rfl ?_
    refine g_v1 (t := 3) (u := (.ref (.bx 3) 0 [] (.agg [(.int .i64 g_1.1), (Enc.enc (g_1.2 : List (Int × Int)))]))) (.ref (.bx 3) 0 [0] (.int .i64 g_1.1)) h3 rfl rfl ?_
    refine g_v1 (t := 16) (u := (.ref (.bx 3) 0 [0] (.int .i64 g_1.1))) (.int .i64 g_1.1) rfl rfl rfl ?_
    refine g_v2 (t1 := 15) (t2 := 17) (u1 := (.int .i64 x_9)) (u2 := (.int .i64 g_1.1)) (.bool (decide (x_9 < g_1.1))) rfl rfl rfl rfl ?_
    refine g_end ?_
    refine e_end ?_
    refine renew [(1, (Enc.enc (searchers_2 : List Int))), (2, (Enc.enc (before_3 : List Int))), (3, (.ref (.bx 3) 0 [] (.agg [(.int .i64 g_1.1), (Enc.enc (g_1.2 : List (Int × Int)))]))), (6, (.sl .nl (Enc.shp Int) 0 [])), (7, (encO (.at 7 []) (.of (free_8 : List Int)))), (8, (encO (.at 8 []) (.of ([] : List Int)))), (9, (.int .i64 x_9)), (18, (.bool (decide (x_9 < g_1.1))))] ⟨h1, h2, h3, h6, h7, h8, h9, rfl⟩ ?_
    rintro s ⟨h1, h2, h3, h6, h7, h8, h9, h18⟩
    refine .nsq ?_
    refine run_cond (t := decide (x_9 < g_1.1)) h18 h (fun h => ?_) (fun h => ?_)
    · refine .skip ?_
      refine .nsq ?_
      refine .seq ?_
      refine .block ?_
      refine .seq ?_
      refine run_reg ?_
      refine e_end ?_
      refine g_v1 (t := 1) (u := (Enc.enc (searchers_2 : List Int))) (Enc.enc (searchers_2 : List Int)) h1 rfl rfl ?_
      refine g_v1 (t := 9) (u := (.int .i64 x_9)) (.int .i64 x_9) h9 rfl rfl ?_
      obtain ⟨r_14, E_r_14, h⟩ := bind_some h
      refine g_call (m := 0) (al := false) (r := (Enc.enc (r_14 : Bool))) [Enc.enc (searchers_2 : (List Int)), Enc.enc (x_9 : Int)] (ta_cons (v := (Enc.enc (searchers_2 : List Int))) rfl rfl (Enc.erase_enc (searchers_2 : (List Int))) (ta_cons (v := (.int .i64 x_9)) rfl rfl rfl ta_nil)) (H.c98 _ _ _ E_r_14) H.g98 rfl rfl rfl rfl ?_
      refine g_v1 (t := 23) (u := (.bool r_14)) (.bool (!r_14)) rfl rfl rfl ?_
      refine g_end ?_
      refine e_end ?_
      refine renew [(1, (Enc.enc (searchers_2 : List Int))), (2, (Enc.enc (before_3 : List Int))), (3, (.ref (.bx 3) 0 [] (.agg [(.int .i64 g_1.1), (Enc.enc (g_1.2 : List (Int × Int)))]))), (6, (.sl .nl (Enc.shp Int) 0 [])), (7, (encO (.at 7 []) (.of (free_8 : List Int)))), (8, (encO (.at 8 []) (.of ([] : List Int)))), (9, (.int .i64 x_9)), (24, (.bool (!r_14)))] ⟨h1, h2, h3, h6, h7, h8, h9, rfl⟩ ?_
      rintro s ⟨h1, h2, h3, h6, h7, h8, h9, h24⟩
      refine .nsq ?_
      refine run_cond (t := (!r_14)) h24 h (fun h => ?_) (fun h => ?_)
      · refine run_reg ?_
        refine e_clr ?_
        refine e_end ?_
        refine g_v1 (t := 7) (u := (encO (.at 7 []) (.of (free_8 : List Int)))) (encO (.at 7 []) (.of (free_8 : List Int))) (keep_clear (s := s) (pk := [27, 28]) h7 rfl (map_encO (r := 7) (p := []) rfl rfl)) rfl rfl ?_
        refine g_v1 (t := 9) (u := (.int .i64 x_9)) (.int .i64 x_9) (keep_clear (s := s) (pk := [27, 28]) h9 rfl rfl) rfl rfl ?_
        refine g_litL [(26, (.int .i64 x_9))] [Enc.enc (x_9 : Int)] rfl rfl rfl (gone_clear (s := s) (pk := [27, 28]) (t := 27) rfl) ?_
        obtain ⟨ap_17, E_ap_17, h⟩ := bind_some h
        refine g_app (q := 7) (p := []) (o := (.of (free_8 : List Int))) (ys := ([x_9] : List Int)) (t2 := (.at 27 [])) (lo2 := 0) rfl rfl rfl (gone_clear (s := s) (pk := [27, 28]) (t := 28) rfl) (appN_L (o := (.of (free_8 : List Int))) E_ap_17 trivial) (fun s_21 ha_21 => ?_)
        refine g_v1 (t := 28) (u := (encO (.at 28 []) (.of (ap_17 : List Int)))) (encO (.at 28 []) (.of (ap_17 : List Int))) rfl rfl rfl ?_
        refine g_end ?_
        refine e_home (r := 28) (x := 7) (v := (encO (.at 28 []) (.of (ap_17 : List Int)))) (by exact rfl) rfl (fun s_22 hg_22 => ?_)
        refine e_end ?_
        refine renew [(1, (Enc.enc (searchers_2 : List Int))), (2, (Enc.enc (before_3 : List Int))), (3, (.ref (.bx 3) 0 [] (.agg [(.int .i64 g_1.1), (Enc.enc (g_1.2 : List (Int × Int)))]))), (6, (.sl .nl (Enc.shp Int) 0 [])), (7, (encO (.at 7 []) (.of (ap_17 : List Int)))), (8, (encO (.at 8 []) (.of ([] : List Int)))), (9, (.int .i64 x_9))] ⟨(hg_22 1 (Enc.enc (searchers_2 : List Int)) (Enc.enc (searchers_2 : List Int)) (show s_21 1 = (Enc.enc (searchers_2 : List Int)) from keep_app ha_21 (keep_clear (s := s) (pk := [27, 28]) h1 rfl (Enc.map_enc _ (searchers_2 : List Int))) (Enc.map_enc _ (searchers_2 : List Int))) (Enc.map_enc _ (searchers_2 : List Int))), (hg_22 2 (Enc.enc (before_3 : List Int)) (Enc.enc (before_3 : List Int)) (show s_21 2 = (Enc.enc (before_3 : List Int)) from keep_app ha_21 (keep_clear (s := s) (pk := [27, 28]) h2 rfl (Enc.map_enc _ (before_3 : List Int))) (Enc.map_enc _ (before_3 : List Int))) (Enc.map_enc _ (before_3 : List Int))), (hg_22 3 (.ref (.bx 3) 0 [] (.agg [(.int .i64 g_1.1), (Enc.enc (g_1.2 : List (Int × Int)))])) (.ref (.bx 3) 0 [] (.agg [(.int .i64 g_1.1), (Enc.enc (g_1.2 : List (Int × Int)))])) (show s_21 3 = (.ref (.bx 3) 0 [] (.agg [(.int .i64 g_1.1), (Enc.enc (g_1.2 : List (Int × Int)))])) from keep_app ha_21 (keep_clear (s := s) (pk := [27, 28]) h3 rfl (map_bx rfl (map_agg (maps_cons rfl (maps_cons (Enc.map_enc _ (g_1.2 : List (Int × Int))) maps_nil))))) (map_bx rfl (map_agg (maps_cons rfl (maps_cons (Enc.map_enc _ (g_1.2 : List (Int × Int))) maps_nil))))) (map_bx rfl (map_agg (maps_cons rfl (maps_cons (Enc.map_enc _ (g_1.2 : List (Int × Int))) maps_nil))))), (hg_22 6 (.sl .nl (Enc.shp Int) 0 []) (.sl .nl (Enc.shp Int) 0 []) (show s_21 6 = (.sl .nl (Enc.shp Int) 0 []) from keep_app ha_21 (keep_clear (s := s) (pk := [27, 28]) h6 rfl rfl) rfl) rfl), (hg_22 7 (encO (.at 28 []) (.of (ap_17 : List Int))) (encO (.at 7 []) (.of (ap_17 : List Int))) rfl (map_encO (r := 28) (p := []) rfl rfl)), (hg_22 8 (encO (.at 8 []) (.of ([] : List Int))) (encO (.at 8 []) (.of ([] : List Int))) (show s_21 8 = (encO (.at 8 []) (.of ([] : List Int))) from keep_app ha_21 (keep_clear (s := s) (pk := [27, 28]) h8 rfl (map_encO (r := 8) (p := []) rfl rfl)) (map_encO (r := 8) (p := []) rfl rfl)) (map_encO (r := 8) (p := []) rfl rfl)), (hg_22 9 (.int .i64 x_9) (.int .i64 x_9) (show s_21 9 = (.int .i64 x_9) from keep_app ha_21 (keep_clear (s := s) (pk := [27, 28]) h9 rfl rfl) rfl) rfl)⟩ ?_
        rintro s ⟨h1, h2, h3, h6, h7, h8, h9⟩
        exact t_f138_j1 H searchers_2 before_3 g_1 x_9 (s_l6Spread_l3 F searchers_2 before_3 g_1 k) ih ap_17 _ ⟨h1, h2, h3, h6, h7, h8, h9⟩ h
      · refine .skip ?_
        exact t_f138_j1 H searchers_2 before_3 g_1 x_9 (s_l6Spread_l3 F searchers_2 before_3 g_1 k) ih free_8 _ ⟨h1, h2, h3, h6, h7, h8, h9⟩ h
    · refine .exit ?_
      refine .esq ?_
      refine .elp ?_
      refine .ebk ?_
      refine .nsq ?_
      refine .seq ?_
      refine .seq ?_
      refine run_reg ?_
      refine e_end ?_
      refine g_v0 (.int .i64 0) rfl rfl ?_
      refine g_end ?_
      refine e_frz (x := 7) (v := (encO (.at 7 []) (.of (free_8 : List Int)))) [(.at 7 [])] (by exact h7) toks_ownL (fun s_23 hg_23 => ?_)
      refine e_frz (x := 8) (v := (encO (.at 8 []) (.of ([] : List Int)))) [(.at 8 [])] (by exact (hg_23 8 (encO (.at 8 []) (.of ([] : List Int))) (encO (.at 8 []) (.of ([] : List Int))) h8 (frz_own_ne rfl rfl))) toks_ownL (fun s_24 hg_24 => ?_)
      refine e_end ?_
      refine renew [(1, (Enc.enc (searchers_2 : List Int))), (2, (Enc.enc (before_3 : List Int))), (3, (.ref (.bx 3) 0 [] (.agg [(.int .i64 g_1.1), (Enc.enc (g_1.2 : List (Int × Int)))]))), (6, (.sl .nl (Enc.shp Int) 0 [])), (7, (Enc.enc (free_8 : List Int))), (8, (Enc.enc ([] : List Int))), (10, (.int .i64 0))] ⟨(hg_24 1 (Enc.enc (searchers_2 : List Int)) (Enc.enc (searchers_2 : List Int)) (hg_23 1 (Enc.enc (searchers_2 : List Int)) (Enc.enc (searchers_2 : List Int)) h1 (Enc.frz_enc _ (searchers_2 : List Int))) (Enc.frz_enc _ (searchers_2 : List Int))), (hg_24 2 (Enc.enc (before_3 : List Int)) (Enc.enc (before_3 : List Int)) (hg_23 2 (Enc.enc (before_3 : List Int)) (Enc.enc (before_3 : List Int)) h2 (Enc.frz_enc _ (before_3 : List Int))) (Enc.frz_enc _ (before_3 : List Int))), (hg_24 3 (.ref (.bx 3) 0 [] (.agg [(.int .i64 g_1.1), (Enc.enc (g_1.2 : List (Int × Int)))])) (.ref (.bx 3) 0 [] (.agg [(.int .i64 g_1.1), (Enc.enc (g_1.2 : List (Int × Int)))])) (hg_23 3 (.ref (.bx 3) 0 [] (.agg [(.int .i64 g_1.1), (Enc.enc (g_1.2 : List (Int × Int)))])) (.ref (.bx 3) 0 [] (.agg [(.int .i64 g_1.1), (Enc.enc (g_1.2 : List (Int × Int)))])) h3 (frz_ref_ne rfl (frz_agg (frzs_cons rfl (frzs_cons (Enc.frz_enc _ (g_1.2 : List (Int × Int))) rfl))) rfl)) (frz_ref_ne rfl (frz_agg (frzs_cons rfl (frzs_cons (Enc.frz_enc _ (g_1.2 : List (Int × Int))) rfl))) rfl)), (hg_24 6 (.sl .nl (Enc.shp Int) 0 []) (.sl .nl (Enc.shp Int) 0 []) (hg_23 6 (.sl .nl (Enc.shp Int) 0 []) (.sl .nl (Enc.shp Int) 0 []) h6 rfl) rfl), (hg_24 7 (Enc.enc (free_8 : List Int)) (Enc.enc (free_8 : List Int)) (hg_23 7 (encO (.at 7 []) (.of (free_8 : List Int))) (Enc.enc (free_8 : List Int)) h7 frz_own) (Enc.frz_enc _ (free_8 : List Int))), (hg_24 8 (encO (.at 8 []) (.of ([] : List Int))) (Enc.enc ([] : List Int)) (hg_23 8 (encO (.at 8 []) (.of ([] : List Int))) (encO (.at 8 []) (.of ([] : List Int))) h8 (frz_own_ne rfl rfl)) frz_own), (hg_24 10 (.int .i64 0) (.int .i64 0) (hg_23 10 (.int .i64 0) (.int .i64 0) rfl rfl) rfl)⟩ ?_
      rintro s ⟨h1, h2, h3, h6, h7, h8, h10⟩
      refine .nsq ?_
      refine .block ?_
      refine .loop ?_
      exact t_f138_l2 H searchers_2 before_3 g_1 free_8 F [] 0 _ ⟨h1, h2, h3, h6, h7, h8, h10⟩ h
def s_l6Spread (F : Nat) (g_1 : (Int × (List (Int × Int)))) (searchers_2 : (List Int)) (before_3 : (List Int)) : Option (List Int) :=
  s_l6Spread_l3 F searchers_2 before_3 g_1 F [] 0
theorem t138 (H : H138 D σ F) (g_1 : (Int × (List (Int × Int)))) (searchers_2 : (List Int)) (before_3 : (List Int)) (s : Nat → V) (hs : Facts [(0, (.agg [(.int .i64 g_1.1), (Enc.enc (g_1.2 : List (Int × Int)))])), (1, (Enc.enc (searchers_2 : List Int))), (2, (Enc.enc (before_3 : List Int)))] s) (h : s_l6Spread F g_1 searchers_2 before_3 = some r) : Run D σ (R138 r) (.run A138 []) s := by
  unfold s_l6Spread at h
  obtain ⟨h0, h1, h2⟩ := hs
  refine .seq ?_
  refine run_reg ?_
  refine e_clr ?_
  refine e_end ?_
  refine g_box (.agg [(.int .i64 g_1.1), (Enc.enc (g_1.2 : List (Int × Int)))]) (rd_of (keep_clear (s := s) (pk := [3]) h0 rfl (map_agg (maps_cons rfl (maps_cons (Enc.map_enc _ (g_1.2 : List (Int × Int))) maps_nil)))) rfl) (gone_clear (s := s) (pk := [3]) (t := 3) rfl) rfl ?_
  refine g_v0 (.sl .nl (Enc.shp Int) 0 []) rfl rfl ?_
  refine g_end ?_
  refine e_end ?_
  refine renew [(1, (Enc.enc (searchers_2 : List Int))), (2, (Enc.enc (before_3 : List Int))), (3, (.ref (.bx 3) 0 [] (.agg [(.int .i64 g_1.1), (Enc.enc (g_1.2 : List (Int × Int)))]))), (6, (.sl .nl (Enc.shp Int) 0 []))] ⟨(keep_clear (s := s) (pk := [3]) h1 rfl (Enc.map_enc _ (searchers_2 : List Int))), (keep_clear (s := s) (pk := [3]) h2 rfl (Enc.map_enc _ (before_3 : List Int))), rfl, rfl⟩ ?_
  rintro s ⟨h1, h2, h3, h6⟩
  refine .nsq ?_
  refine .seq ?_
  refine run_reg ?_
  refine e_clr ?_
  refine e_end ?_
  refine g_litL [] [] trivial rfl rfl (gone_clear (s := s) (pk := [13, 14]) (t := 13) rfl) ?_
  refine g_litL [] [] trivial rfl rfl (gone_clear (s := s) (pk := [13, 14]) (t := 14) rfl) ?_
  refine g_v1 (t := 13) (u := (encO (.at 13 []) (.of ([] : List Int)))) (encO (.at 13 []) (.of ([] : List Int))) rfl rfl rfl ?_
  refine g_v1 (t := 14) (u := (encO (.at 14 []) (.of ([] : List Int)))) (encO (.at 14 []) (.of ([] : List Int))) rfl rfl rfl ?_
  refine g_end ?_
  refine e_home (r := 13) (x := 7) (v := (encO (.at 13 []) (.of ([] : List Int)))) (by exact rfl) rfl (fun s_3 hg_3 => ?_)
  refine e_home (r := 14) (x := 8) (v := (encO (.at 14 []) (.of ([] : List Int)))) (by exact (hg_3 8 (encO (.at 14 []) (.of ([] : List Int))) (encO (.at 14 []) (.of ([] : List Int))) rfl (map_encO (r := 14) (p := []) rfl rfl))) rfl (fun s_4 hg_4 => ?_)
  refine e_end ?_
  refine renew [(1, (Enc.enc (searchers_2 : List Int))), (2, (Enc.enc (before_3 : List Int))), (3, (.ref (.bx 3) 0 [] (.agg [(.int .i64 g_1.1), (Enc.enc (g_1.2 : List (Int × Int)))]))), (6, (.sl .nl (Enc.shp Int) 0 [])), (7, (encO (.at 7 []) (.of ([] : List Int)))), (8, (encO (.at 8 []) (.of ([] : List Int))))] ⟨(hg_4 1 (Enc.enc (searchers_2 : List Int)) (Enc.enc (searchers_2 : List Int)) (hg_3 1 (Enc.enc (searchers_2 : List Int)) (Enc.enc (searchers_2 : List Int)) (keep_clear (s := s) (pk := [13, 14]) h1 rfl (Enc.map_enc _ (searchers_2 : List Int))) (Enc.map_enc _ (searchers_2 : List Int))) (Enc.map_enc _ (searchers_2 : List Int))), (hg_4 2 (Enc.enc (before_3 : List Int)) (Enc.enc (before_3 : List Int)) (hg_3 2 (Enc.enc (before_3 : List Int)) (Enc.enc (before_3 : List Int)) (keep_clear (s := s) (pk := [13, 14]) h2 rfl (Enc.map_enc _ (before_3 : List Int))) (Enc.map_enc _ (before_3 : List Int))) (Enc.map_enc _ (before_3 : List Int))), (hg_4 3 (.ref (.bx 3) 0 [] (.agg [(.int .i64 g_1.1), (Enc.enc (g_1.2 : List (Int × Int)))])) (.ref (.bx 3) 0 [] (.agg [(.int .i64 g_1.1), (Enc.enc (g_1.2 : List (Int × Int)))])) (hg_3 3 (.ref (.bx 3) 0 [] (.agg [(.int .i64 g_1.1), (Enc.enc (g_1.2 : List (Int × Int)))])) (.ref (.bx 3) 0 [] (.agg [(.int .i64 g_1.1), (Enc.enc (g_1.2 : List (Int × Int)))])) (keep_clear (s := s) (pk := [13, 14]) h3 rfl (map_bx rfl (map_agg (maps_cons rfl (maps_cons (Enc.map_enc _ (g_1.2 : List (Int × Int))) maps_nil))))) (map_bx rfl (map_agg (maps_cons rfl (maps_cons (Enc.map_enc _ (g_1.2 : List (Int × Int))) maps_nil))))) (map_bx rfl (map_agg (maps_cons rfl (maps_cons (Enc.map_enc _ (g_1.2 : List (Int × Int))) maps_nil))))), (hg_4 6 (.sl .nl (Enc.shp Int) 0 []) (.sl .nl (Enc.shp Int) 0 []) (hg_3 6 (.sl .nl (Enc.shp Int) 0 []) (.sl .nl (Enc.shp Int) 0 []) (keep_clear (s := s) (pk := [13, 14]) h6 rfl rfl) rfl) rfl), (hg_4 7 (encO (.at 7 []) (.of ([] : List Int))) (encO (.at 7 []) (.of ([] : List Int))) (hg_3 7 (encO (.at 13 []) (.of ([] : List Int))) (encO (.at 7 []) (.of ([] : List Int))) rfl (map_encO (r := 13) (p := []) rfl rfl)) (map_encO (r := 7) (p := []) rfl rfl)), (hg_4 8 (encO (.at 14 []) (.of ([] : List Int))) (encO (.at 8 []) (.of ([] : List Int))) (hg_3 8 (encO (.at 14 []) (.of ([] : List Int))) (encO (.at 14 []) (.of ([] : List Int))) rfl (map_encO (r := 14) (p := []) rfl rfl)) (map_encO (r := 14) (p := []) rfl rfl))⟩ ?_
  rintro s ⟨h1, h2, h3, h6, h7, h8⟩
  refine .nsq ?_
  refine .seq ?_
  refine .seq ?_
  refine run_reg ?_
  refine e_end ?_
  refine g_v0 (.int .i64 0) rfl rfl ?_
  refine g_end ?_
  refine e_end ?_
  refine renew [(1, (Enc.enc (searchers_2 : List Int))), (2, (Enc.enc (before_3 : List Int))), (3, (.ref (.bx 3) 0 [] (.agg [(.int .i64 g_1.1), (Enc.enc (g_1.2 : List (Int × Int)))]))), (6, (.sl .nl (Enc.shp Int) 0 [])), (7, (encO (.at 7 []) (.of ([] : List Int)))), (8, (encO (.at 8 []) (.of ([] : List Int)))), (9, (.int .i64 0))] ⟨h1, h2, h3, h6, h7, h8, rfl⟩ ?_
  rintro s ⟨h1, h2, h3, h6, h7, h8, h9⟩
  refine .nsq ?_
  refine .block ?_
  refine .loop ?_
  exact t_f138_l3 H searchers_2 before_3 g_1 F [] 0 _ ⟨h1, h2, h3, h6, h7, h8, h9⟩ h
end
def e138 (F : Nat) : Ent := ⟨138, dn3 (s_l6Spread F) (fun (r : (List Int)) => (Enc.enc (r : (List Int)))), 0, true⟩
theorem o138 {D : Den} {σ : Sig} {F : Nat} (hF : Fits2 Try.prog D σ) (H : H138 D σ F) : (e138 F).Ok Try.prog := by
  refine ⟨fun args r h => ?_, ⟨Try.f138, Try.func138, rfl, rfl⟩⟩
  obtain ⟨x0, x1, x2, y, rfl, hy, rfl⟩ := dn3_open h
  exact contract_run hF (by kernel_rfl) Try.func138 rfl c138 (show 3 ≤ Try.f138.ntmps by decide) (t138 H x0 x1 x2 _ ⟨rfl, rfl, rfl⟩ hy)
/- loop.example/g01109/spec.l6Step -/
def A127_1 : AC := (AC.seq (AC.reg [] [(I.mk (some 19) none false (X.v (A.mov (O.t 7)))), (I.mk (some 20) none false (X.v (A.load (Sh.ag [Sh.s, Sh.p]) (O.t 3)))), (I.mk (some 21) none false (X.v (A.mov (O.t 7)))), (I.mk (some 22) none false (X.v (A.fld (O.t 4) 1 1))), (I.mk (some 23) none false (X.v (A.load Sh.p (O.t 22)))), (I.mk (some 24) none false (X.call (O.k (V.fn 138 [] [])) [(O.t 20), (O.t 21), (O.t 23)])), (I.mk (some 25) none false (X.v (A.bld (V.agg [(V.sl Tok.nl Sh.s 0 []), (V.sl Tok.nl Sh.s 0 [])]) [(0, 0, (O.t 19)), (1, 1, (O.t 24))]))), (I.mk none none false (X.store (Sh.ag [Sh.p, Sh.p]) (O.t 6) (O.t 25)))] []) AC.ret)
def A127_4 : AC := (AC.cond (O.t 14) (AC.reg [] [(I.mk (some 15) none false (X.v (A.fld (O.t 4) 0 0))), (I.mk (some 16) none false (X.v (A.load Sh.p (O.t 15)))), (I.mk (some 17) none false (X.v (A.mov (O.t 2)))), (I.mk (some 18) none false (X.call (O.k (V.fn 111 [] [])) [(O.t 16), (O.t 17)])), (I.mk (some 7) none false (X.v (A.mov (O.t 18))))] []) AC.skip)
def A127_3 : AC := (AC.seq (AC.seq (AC.reg [] [(I.mk (some 13) none false (X.v (A.mov (O.t 2)))), (I.mk (some 14) none false (X.v (A.bin BinOp.geq (O.t 13) (O.k (V.int IntKind.i64 (Int.ofNat 0))))))] []) A127_4) A127_1)
def A127_2 : AC := (AC.seq (AC.reg [] [(I.mk (some 8) none false (X.v (A.fld (O.t 4) 0 0))), (I.mk (some 9) none false (X.v (A.load Sh.p (O.t 8)))), (I.mk (some 10) none false (X.v (A.mov (O.t 2)))), (I.mk (some 11) none false (X.v (A.bin BinOp.sub (O.k (V.int IntKind.i64 (Int.negSucc 0))) (O.t 10)))), (I.mk (some 12) none false (X.call (O.k (V.fn 112 [] [])) [(O.t 9), (O.t 11)])), (I.mk (some 7) none false (X.v (A.mov (O.t 12))))] []) A127_3)
def A127 : AC := (AC.seq (AC.reg [.clr [3, 4, 6]] [(I.mk (some 3) none false (X.box (O.t 0))), (I.mk (some 4) none false (X.box (O.t 1))), (I.mk (some 6) none false (X.alloc (V.agg [(V.sl Tok.nl Sh.s 0 []), (V.sl Tok.nl Sh.s 0 [])])))] []) A127_2)
def an127 : List An := [{ id := 0, pre := [.clr [3, 4, 6]], ep := [], lin := [], sp := [] }]
theorem c127 : cC Try.prog Try.f127.ntmps an127 (Try.f127.body.getD .skip) = some A127 := by kernel_rfl
structure H127 (D : Den) (σ : Sig) (F : Nat) : Prop where
  c112 : ∀ x0 x1 r, s_l2Without F x0 x1 = some r → D 112 [Enc.enc x0, Enc.enc x1] = some (Enc.enc (r : (List Int)))
  g112 : σ 112 = some (0, true)
  c111 : ∀ x0 x1 r, s_l1Put F x0 x1 = some r → D 111 [Enc.enc x0, Enc.enc x1] = some (Enc.enc (r : (List Int)))
  g111 : σ 111 = some (0, true)
  c138 : ∀ x0 x1 x2 r, s_l6Spread F x0 x1 x2 = some r → D 138 [Enc.enc x0, Enc.enc x1, Enc.enc x2] = some (Enc.enc (r : (List Int)))
  g138 : σ 138 = some (0, true)
abbrev R127 (r : ((List Int) × (List Int))) : (Nat → V) → Prop := RR Try.prog [.cell 6 79] 0 true (Enc.enc (r : ((List Int) × (List Int))))
section
variable {D : Den} {σ : Sig} {F : Nat} {r : ((List Int) × (List Int))}
def s_l6Step_j1 (F : Nat) (g_1 : (Int × (List (Int × Int)))) (s_2 : ((List Int) × (List Int)))  (searchers_6 : (List Int)) : Option ((List Int) × (List Int)) :=
  (s_l6Spread F g_1 searchers_6 s_2.2).bind fun r_7 =>
  some (searchers_6, r_7)
theorem t_f127_j1 (H : H127 D σ F) (g_1 : (Int × (List (Int × Int)))) (s_2 : ((List Int) × (List Int)))  (searchers_6 : (List Int)) (s : Nat → V) (hs : Facts [(3, (.ref (.bx 3) 0 [] (.agg [(.int .i64 g_1.1), (Enc.enc (g_1.2 : List (Int × Int)))]))), (4, (.ref (.bx 4) 0 [] (.agg [(Enc.enc (s_2.1 : List Int)), (Enc.enc (s_2.2 : List Int))]))), (6, (.ref (.bx 6) 0 [] (.agg [(.sl .nl (Enc.shp Int) 0 []), (.sl .nl (Enc.shp Int) 0 [])]))), (7, (Enc.enc (searchers_6 : List Int)))] s) (h : s_l6Step_j1 F g_1 s_2  searchers_6 = some r) : Run D σ (R127 r) (.nrm [.sq A127_1]) s := by
  unfold s_l6Step_j1 at h
  obtain ⟨h3, h4, h6, h7⟩ := hs
  refine .nsq ?_
  refine .seq ?_
  refine run_reg ?_
  refine e_end ?_
  refine g_v1 (t := 7) (u := (Enc.enc (searchers_6 : List Int))) (Enc.enc (searchers_6 : List Int)) h7 rfl rfl ?_
  refine g_v1 (t := 3) (u := (.ref (.bx 3) 0 [] (.agg [(.int .i64 g_1.1), (Enc.enc (g_1.2 : List (Int × Int)))]))) (.agg [(.int .i64 g_1.1), (Enc.enc (g_1.2 : List (Int × Int)))]) h3 rfl rfl ?_
  refine g_v1 (t := 7) (u := (Enc.enc (searchers_6 : List Int))) (Enc.enc (searchers_6 : List Int)) h7 rfl rfl ?_
  refine g_v1 (t := 4) (u := (.ref (.bx 4) 0 [] (.agg [(Enc.enc (s_2.1 : List Int)), (Enc.enc (s_2.2 : List Int))]))) (.ref (.bx 4) 0 [1] (Enc.enc (s_2.2 : List Int))) h4 rfl rfl ?_
  refine g_v1 (t := 22) (u := (.ref (.bx 4) 0 [1] (Enc.enc (s_2.2 : List Int)))) (Enc.enc (s_2.2 : List Int)) rfl rfl rfl ?_
  obtain ⟨r_7, E_r_7, h⟩ := bind_some h
  refine g_call (m := 0) (al := true) (r := (Enc.enc (r_7 : (List Int)))) [Enc.enc (g_1 : (Int × (List (Int × Int)))), Enc.enc (searchers_6 : (List Int)), Enc.enc (s_2.2 : (List Int))] (ta_cons (v := (.agg [(.int .i64 g_1.1), (Enc.enc (g_1.2 : List (Int × Int)))])) rfl rfl (Enc.erase_enc (g_1 : (Int × (List (Int × Int))))) (ta_cons (v := (Enc.enc (searchers_6 : List Int))) rfl rfl (Enc.erase_enc (searchers_6 : (List Int))) (ta_cons (v := (Enc.enc (s_2.2 : List Int))) rfl rfl (Enc.erase_enc (s_2.2 : (List Int))) ta_nil))) (H.c138 _ _ _ _ E_r_7) H.g138 (hal_of (ht_cons (v := (.agg [(.int .i64 g_1.1), (Enc.enc (g_1.2 : List (Int × Int)))])) rfl rfl rfl (ht_cons (v := (Enc.enc (searchers_6 : List Int))) rfl rfl rfl (ht_cons (v := (Enc.enc (s_2.2 : List Int))) rfl rfl rfl ht_nil)))) rfl rfl rfl ?_
  refine g_v2 (t1 := 19) (t2 := 24) (u1 := (Enc.enc (searchers_6 : List Int))) (u2 := (Enc.enc (r_7 : List Int))) (.agg [(Enc.enc (searchers_6 : List Int)), (Enc.enc (r_7 : List Int))]) rfl rfl rfl rfl ?_
  refine g_store (.agg [(Enc.enc (searchers_6 : List Int)), (Enc.enc (r_7 : List Int))]) (rd_of h6 rfl) (rd_of rfl rfl) (by refine ⟨by decide, by decide, rfl, rfl, rfl, ?_⟩; first | rfl | simp [V.toks, V.tokss, Enc.toks_enc]) ?_
  refine g_end ?_
  refine e_end ?_
  refine renew [(6, (.ref (.bx 6) 0 [] (.agg [(Enc.enc (searchers_6 : List Int)), (Enc.enc (r_7 : List Int))])))] (keep_mut h6 rfl) ?_
  rintro s h6
  refine .nsq ?_
  refine .ret ?_
  have hr := Option.some.inj h
  subst hr
  exact rrA (res_cell h6 (by kernel_rfl)) (fin_ret1 (fin_enc (x := ((searchers_6, r_7) : ((List Int) × (List Int))))))
def s_l6Step (F : Nat) (g_1 : (Int × (List (Int × Int)))) (s_2 : ((List Int) × (List Int))) (step_3 : Int) : Option ((List Int) × (List Int)) :=
  (s_l2Without F s_2.1 (w64 ((-1) - step_3))).bind fun r_4 =>
  bif decide (step_3 ≥ 0) then
    (s_l1Put F s_2.1 step_3).bind fun r_8 =>
    s_l6Step_j1 F g_1 s_2 r_8
  else
    s_l6Step_j1 F g_1 s_2 r_4
theorem t127 (H : H127 D σ F) (g_1 : (Int × (List (Int × Int)))) (s_2 : ((List Int) × (List Int))) (step_3 : Int) (s : Nat → V) (hs : Facts [(0, (.agg [(.int .i64 g_1.1), (Enc.enc (g_1.2 : List (Int × Int)))])), (1, (.agg [(Enc.enc (s_2.1 : List Int)), (Enc.enc (s_2.2 : List Int))])), (2, (.int .i64 step_3))] s) (h : s_l6Step F g_1 s_2 step_3 = some r) : Run D σ (R127 r) (.run A127 []) s := by
  unfold s_l6Step at h
  obtain ⟨h0, h1, h2⟩ := hs
  refine .seq ?_
  refine run_reg ?_
  refine e_clr ?_
  refine e_end ?_
  refine g_box (.agg [(.int .i64 g_1.1), (Enc.enc (g_1.2 : List (Int × Int)))]) (rd_of (keep_clear (s := s) (pk := [3, 4, 6]) h0 rfl (map_agg (maps_cons rfl (maps_cons (Enc.map_enc _ (g_1.2 : List (Int × Int))) maps_nil)))) rfl) (gone_clear (s := s) (pk := [3, 4, 6]) (t := 3) rfl) rfl ?_
  refine g_box (.agg [(Enc.enc (s_2.1 : List Int)), (Enc.enc (s_2.2 : List Int))]) (rd_of (keep_clear (s := s) (pk := [3, 4, 6]) h1 rfl (map_agg (maps_cons (Enc.map_enc _ (s_2.1 : List Int)) (maps_cons (Enc.map_enc _ (s_2.2 : List Int)) maps_nil)))) rfl) (gone_clear (s := s) (pk := [3, 4, 6]) (t := 4) rfl) rfl ?_
  refine g_alloc (gone_clear (s := s) (pk := [3, 4, 6]) (t := 6) rfl) ?_
  refine g_end ?_
  refine e_end ?_
  refine renew [(2, (.int .i64 step_3)), (3, (.ref (.bx 3) 0 [] (.agg [(.int .i64 g_1.1), (Enc.enc (g_1.2 : List (Int × Int)))]))), (4, (.ref (.bx 4) 0 [] (.agg [(Enc.enc (s_2.1 : List Int)), (Enc.enc (s_2.2 : List Int))]))), (6, (.ref (.bx 6) 0 [] (.agg [(.sl .nl (Enc.shp Int) 0 []), (.sl .nl (Enc.shp Int) 0 [])])))] ⟨(keep_clear (s := s) (pk := [3, 4, 6]) h2 rfl rfl), rfl, rfl, rfl⟩ ?_
  rintro s ⟨h2, h3, h4, h6⟩
  refine .nsq ?_
  refine .seq ?_
  refine run_reg ?_
  refine e_end ?_
  refine g_v1 (t := 4) (u := (.ref (.bx 4) 0 [] (.agg [(Enc.enc (s_2.1 : List Int)), (Enc.enc (s_2.2 : List Int))]))) (.ref (.bx 4) 0 [0] (Enc.enc (s_2.1 : List Int))) h4 rfl rfl ?_
  refine g_v1 (t := 8) (u := (.ref (.bx 4) 0 [0] (Enc.enc (s_2.1 : List Int)))) (Enc.enc (s_2.1 : List Int)) rfl rfl rfl ?_
  refine g_v1 (t := 2) (u := (.int .i64 step_3)) (.int .i64 step_3) h2 rfl rfl ?_
  refine g_v1 (t := 10) (u := (.int .i64 step_3)) (.int .i64 (w64 ((-1) - step_3))) rfl rfl rfl ?_
  obtain ⟨r_4, E_r_4, h⟩ := bind_some h
  refine g_call (m := 0) (al := true) (r := (Enc.enc (r_4 : (List Int)))) [Enc.enc (s_2.1 : (List Int)), Enc.enc (w64 ((-1) - step_3) : Int)] (ta_cons (v := (Enc.enc (s_2.1 : List Int))) rfl rfl (Enc.erase_enc (s_2.1 : (List Int))) (ta_cons (v := (.int .i64 (w64 ((-1) - step_3)))) rfl rfl rfl ta_nil)) (H.c112 _ _ _ E_r_4) H.g112 (hal_of (ht_cons (v := (Enc.enc (s_2.1 : List Int))) rfl rfl rfl (ht_cons (v := (.int .i64 (w64 ((-1) - step_3)))) rfl rfl rfl ht_nil))) rfl rfl rfl ?_
  refine g_v1 (t := 12) (u := (Enc.enc (r_4 : List Int))) (Enc.enc (r_4 : List Int)) rfl rfl rfl ?_
  refine g_end ?_
  refine e_end ?_
  refine renew [(2, (.int .i64 step_3)), (3, (.ref (.bx 3) 0 [] (.agg [(.int .i64 g_1.1), (Enc.enc (g_1.2 : List (Int × Int)))]))), (4, (.ref (.bx 4) 0 [] (.agg [(Enc.enc (s_2.1 : List Int)), (Enc.enc (s_2.2 : List Int))]))), (6, (.ref (.bx 6) 0 [] (.agg [(.sl .nl (Enc.shp Int) 0 []), (.sl .nl (Enc.shp Int) 0 [])]))), (7, (Enc.enc (r_4 : List Int)))] ⟨h2, h3, h4, h6, rfl⟩ ?_
  rintro s ⟨h2, h3, h4, h6, h7⟩
  refine .nsq ?_
  refine .seq ?_
  refine .seq ?_
  refine run_reg ?_
  refine e_end ?_
  refine g_v1 (t := 2) (u := (.int .i64 step_3)) (.int .i64 step_3) h2 rfl rfl ?_
  refine g_v1 (t := 13) (u := (.int .i64 step_3)) (.bool (decide (step_3 ≥ 0))) rfl rfl rfl ?_
  refine g_end ?_
  refine e_end ?_
  refine renew [(2, (.int .i64 step_3)), (3, (.ref (.bx 3) 0 [] (.agg [(.int .i64 g_1.1), (Enc.enc (g_1.2 : List (Int × Int)))]))), (4, (.ref (.bx 4) 0 [] (.agg [(Enc.enc (s_2.1 : List Int)), (Enc.enc (s_2.2 : List Int))]))), (6, (.ref (.bx 6) 0 [] (.agg [(.sl .nl (Enc.shp Int) 0 []), (.sl .nl (Enc.shp Int) 0 [])]))), (7, (Enc.enc (r_4 : List Int))), (14, (.bool (decide (step_3 ≥ 0))))] ⟨h2, h3, h4, h6, h7, rfl⟩ ?_
  rintro s ⟨h2, h3, h4, h6, h7, h14⟩
  refine .nsq ?_
  refine run_cond (t := decide (step_3 ≥ 0)) h14 h (fun h => ?_) (fun h => ?_)
  · refine run_reg ?_
    refine e_end ?_
    refine g_v1 (t := 4) (u := (.ref (.bx 4) 0 [] (.agg [(Enc.enc (s_2.1 : List Int)), (Enc.enc (s_2.2 : List Int))]))) (.ref (.bx 4) 0 [0] (Enc.enc (s_2.1 : List Int))) h4 rfl rfl ?_
    refine g_v1 (t := 15) (u := (.ref (.bx 4) 0 [0] (Enc.enc (s_2.1 : List Int)))) (Enc.enc (s_2.1 : List Int)) rfl rfl rfl ?_
    refine g_v1 (t := 2) (u := (.int .i64 step_3)) (.int .i64 step_3) h2 rfl rfl ?_
    obtain ⟨r_8, E_r_8, h⟩ := bind_some h
    refine g_call (m := 0) (al := true) (r := (Enc.enc (r_8 : (List Int)))) [Enc.enc (s_2.1 : (List Int)), Enc.enc (step_3 : Int)] (ta_cons (v := (Enc.enc (s_2.1 : List Int))) rfl rfl (Enc.erase_enc (s_2.1 : (List Int))) (ta_cons (v := (.int .i64 step_3)) rfl rfl rfl ta_nil)) (H.c111 _ _ _ E_r_8) H.g111 (hal_of (ht_cons (v := (Enc.enc (s_2.1 : List Int))) rfl rfl rfl (ht_cons (v := (.int .i64 step_3)) rfl rfl rfl ht_nil))) rfl rfl rfl ?_
    refine g_v1 (t := 18) (u := (Enc.enc (r_8 : List Int))) (Enc.enc (r_8 : List Int)) rfl rfl rfl ?_
    refine g_end ?_
    refine e_end ?_
    refine renew [(3, (.ref (.bx 3) 0 [] (.agg [(.int .i64 g_1.1), (Enc.enc (g_1.2 : List (Int × Int)))]))), (4, (.ref (.bx 4) 0 [] (.agg [(Enc.enc (s_2.1 : List Int)), (Enc.enc (s_2.2 : List Int))]))), (6, (.ref (.bx 6) 0 [] (.agg [(.sl .nl (Enc.shp Int) 0 []), (.sl .nl (Enc.shp Int) 0 [])]))), (7, (Enc.enc (r_8 : List Int)))] ⟨h3, h4, h6, rfl⟩ ?_
    rintro s ⟨h3, h4, h6, h7⟩
    exact t_f127_j1 H g_1 s_2 r_8 _ ⟨h3, h4, h6, h7⟩ h
  · refine .skip ?_
    exact t_f127_j1 H g_1 s_2 r_4 _ ⟨h3, h4, h6, h7⟩ h
end
def e127 (F : Nat) : Ent := ⟨127, dn3 (s_l6Step F) (fun (r : ((List Int) × (List Int))) => (Enc.enc (r : ((List Int) × (List Int))))), 0, true⟩
theorem o127 {D : Den} {σ : Sig} {F : Nat} (hF : Fits2 Try.prog D σ) (H : H127 D σ F) : (e127 F).Ok Try.prog := by
  refine ⟨fun args r h => ?_, ⟨Try.f127, Try.func127, rfl, rfl⟩⟩
  obtain ⟨x0, x1, x2, y, rfl, hy, rfl⟩ := dn3_open h
  exact contract_run hF (by kernel_rfl) Try.func127 rfl c127 (show 3 ≤ Try.f127.ntmps by decide) (t127 H x0 x1 x2 _ ⟨rfl, rfl, rfl⟩ hy)
/- loop.example/g01109/spec.l6Program -/
def A90_2 : AC := (AC.cond (O.t 12) AC.skip (AC.exit 0))
def A90_4 : AC := (AC.cond (O.t 22) (AC.seq (AC.reg [] [(I.mk (some 4) none false (X.v (A.mov (O.k (V.bool false)))))] []) AC.ret) AC.skip)
def A90_5 : AC := (AC.reg [] [(I.mk (some 23) none false (X.v (A.load (Sh.ag [Sh.s, Sh.p]) (O.t 2)))), (I.mk (some 24) none false (X.v (A.load (Sh.ag [Sh.p, Sh.p]) (O.t 5)))), (I.mk (some 25) none false (X.v (A.mov (O.t 1)))), (I.mk (some 26) none false (X.v (A.mov (O.t 6)))), (I.mk (some 27) none false (X.v (A.idx (O.t 25) (O.t 26) 1))), (I.mk (some 28) none false (X.v (A.load Sh.s (O.t 27)))), (I.mk (some 29) none false (X.call (O.k (V.fn 127 [] [])) [(O.t 23), (O.t 24), (O.t 28)])), (I.mk none none false (X.store (Sh.ag [Sh.p, Sh.p]) (O.t 5) (O.t 29)))] [])
def A90_6 : AC := (AC.reg [] [(I.mk (some 13) none false (X.v (A.mov (O.t 6)))), (I.mk (some 14) none false (X.v (A.bin BinOp.add (O.t 13) (O.k (V.int IntKind.i64 (Int.ofNat 1)))))), (I.mk (some 6) none false (X.v (A.mov (O.t 14))))] [])
def A90_3 : AC := (AC.seq (AC.block 1 (AC.seq (AC.seq (AC.reg [] [(I.mk (some 15) none false (X.v (A.load (Sh.ag [Sh.s, Sh.p]) (O.t 2)))), (I.mk (some 16) none false (X.v (A.load (Sh.ag [Sh.p, Sh.p]) (O.t 5)))), (I.mk (some 17) none false (X.v (A.mov (O.t 1)))), (I.mk (some 18) none false (X.v (A.mov (O.t 6)))), (I.mk (some 19) none false (X.v (A.idx (O.t 17) (O.t 18) 1))), (I.mk (some 20) none false (X.v (A.load Sh.s (O.t 19)))), (I.mk (some 21) none false (X.call (O.k (V.fn 126 [] [])) [(O.t 15), (O.t 16), (O.t 20)])), (I.mk (some 22) none false (X.v (A.un UnOp.not (O.t 21))))] []) A90_4) A90_5)) A90_6)
def A90_1 : AC := (AC.seq (AC.seq (AC.reg [] [(I.mk (some 9) none false (X.v (A.mov (O.t 6)))), (I.mk (some 10) none false (X.v (A.mov (O.t 1)))), (I.mk (some 11) none false (X.v (A.len (O.t 10)))), (I.mk (some 12) none false (X.v (A.bin BinOp.lss (O.t 9) (O.t 11))))] []) A90_2) A90_3)
def A90_7 : AC := (AC.seq (AC.reg [] [(I.mk (some 30) none false (X.v (A.mov (O.t 1)))), (I.mk (some 31) none false (X.v (A.len (O.t 30)))), (I.mk (some 32) none false (X.v (A.bin BinOp.leq (O.t 31) (O.k (V.int IntKind.i64 (Int.ofNat 40)))))), (I.mk (some 4) none false (X.v (A.mov (O.t 32))))] []) AC.ret)
def A90_10 : AC := (AC.block 0 (AC.loop A90_1))
def A90_9 : AC := (AC.seq (AC.seq (AC.reg [] [(I.mk (some 6) none false (X.v (A.mov (O.k (V.int IntKind.i64 (Int.ofNat 0))))))] []) A90_10) A90_7)
def A90_8 : AC := (AC.seq (AC.reg [.clr [5]] [(I.mk (some 7) none false (X.v (A.load (Sh.ag [Sh.s, Sh.p]) (O.t 2)))), (I.mk (some 8) none false (X.call (O.k (V.fn 125 [] [])) [(O.t 7)])), (I.mk (some 5) none false (X.alloc (V.agg [(V.sl Tok.nl Sh.s 0 []), (V.sl Tok.nl Sh.s 0 [])]))), (I.mk none none false (X.store (Sh.ag [Sh.p, Sh.p]) (O.t 5) (O.t 8)))] []) A90_9)
def A90 : AC := (AC.seq (AC.reg [.clr [2]] [(I.mk (some 2) none false (X.box (O.t 0))), (I.mk (some 4) none false (X.v (A.mov (O.k (V.bool false)))))] []) A90_8)
def an90 : List An := [{ id := 0, pre := [.clr [2]], ep := [], lin := [], sp := [] }, { id := 1, pre := [.clr [5]], ep := [], lin := [], sp := [] }]
theorem c90 : cC Try.prog Try.f90.ntmps an90 (Try.f90.body.getD .skip) = some A90 := by kernel_rfl
structure H90 (D : Den) (σ : Sig) (F : Nat) : Prop where
  c125 : ∀ x0 r, s_l6Begin F x0 = some r → D 125 [Enc.enc x0] = some (Enc.enc (r : ((List Int) × (List Int))))
  g125 : σ 125 = some (0, true)
  c126 : ∀ x0 x1 x2 r, s_l6Can F x0 x1 x2 = some r → D 126 [Enc.enc x0, Enc.enc x1, Enc.enc x2] = some (Enc.enc (r : Bool))
  g126 : σ 126 = some (0, false)
  c127 : ∀ x0 x1 x2 r, s_l6Step F x0 x1 x2 = some r → D 127 [Enc.enc x0, Enc.enc x1, Enc.enc x2] = some (Enc.enc (r : ((List Int) × (List Int))))
  g127 : σ 127 = some (0, true)
abbrev R90 (r : Bool) : (Nat → V) → Prop := RR Try.prog [.tmp 4] 0 false (Enc.enc (r : Bool))
section
variable {D : Den} {σ : Sig} {F : Nat} {r : Bool}
def s_l6Program_l1 (F : Nat) (program_2 : (List Int)) (g_1 : (Int × (List (Int × Int))))  : Nat → (List Int) → (List Int) → Int → Option Bool
  | 0, _, _, _ => none
  | k + 1, s_8, s_9, i_10 =>
    bif decide (i_10 < (program_2.length : Int)) then
      (idx program_2 i_10).bind fun e_15 =>
      (s_l6Can F g_1 (s_8, s_9) e_15).bind fun r_16 =>
      bif (!r_16) then
        some false
      else
        (idx program_2 i_10).bind fun e_17 =>
        (s_l6Step F g_1 (s_8, s_9) e_17).bind fun r_18 =>
        (s_l6Program_l1 F program_2 g_1 k) r_18.1 r_18.2 (w64 (i_10 + 1))
    else
      some (decide ((program_2.length : Int) ≤ 40))
theorem t_f90_l1 (H : H90 D σ F) (program_2 : (List Int)) (g_1 : (Int × (List (Int × Int))))  : ∀ (k : Nat) (s_8 : (List Int)) (s_9 : (List Int)) (i_10 : Int) (s : Nat → V), Facts [(1, (Enc.enc (program_2 : List Int))), (2, (.ref (.bx 2) 0 [] (.agg [(.int .i64 g_1.1), (Enc.enc (g_1.2 : List (Int × Int)))]))), (4, (.bool false)), (5, (.ref (.bx 5) 0 [] (.agg [(Enc.enc (s_8 : List Int)), (Enc.enc (s_9 : List Int))]))), (6, (.int .i64 i_10))] s → s_l6Program_l1 F program_2 g_1 k s_8 s_9 i_10 = some r → Run D σ (R90 r) (.run A90_1 [.lp A90_1, .bk 0, .sq A90_7]) s := by
  intro k
  induction k with
  | zero => intro s_8 s_9 i_10 s _ h; exact nomatch (h : (none : Option _) = some r)
  | succ k ih =>
    intro s_8 s_9 i_10 s hs h
    rw [s_l6Program_l1] at h
    obtain ⟨h1, h2, h4, h5, h6⟩ := hs
    refine .seq ?_
    refine .seq ?_
    refine run_reg ?_
    refine e_end ?_
    refine g_v1 (t := 6) (u := (.int .i64 i_10)) (.int .i64 i_10) h6 rfl rfl ?_
    refine g_v1 (t := 1) (u := (Enc.enc (program_2 : List Int))) (Enc.enc (program_2 : List Int)) h1 rfl rfl ?_
    refine g_v (.int .i64 (program_2.length : Int)) (ev_len (xs := program_2) rfl) ?_
    refine g_v2 (t1 := 9) (t2 := 11) (u1 := (.int .i64 i_10)) (u2 := (.int .i64 (program_2.length : Int))) (.bool (decide (i_10 < (program_2.length : Int)))) rfl rfl rfl rfl ?_
    refine g_end ?_
    refine e_end ?_
    refine renew [(1, (Enc.enc (program_2 : List Int))), (2, (.ref (.bx 2) 0 [] (.agg [(.int .i64 g_1.1), (Enc.enc (g_1.2 : List (Int × Int)))]))), (4, (.bool false)), (5, (.ref (.bx 5) 0 [] (.agg [(Enc.enc (s_8 : List Int)), (Enc.enc (s_9 : List Int))]))), (6, (.int .i64 i_10)), (12, (.bool (decide (i_10 < (program_2.length : Int)))))] ⟨h1, h2, h4, h5, h6, rfl⟩ ?_
    rintro s ⟨h1, h2, h4, h5, h6, h12⟩
    refine .nsq ?_
    refine run_cond (t := decide (i_10 < (program_2.length : Int))) h12 h (fun h => ?_) (fun h => ?_)
    · refine .skip ?_
      refine .nsq ?_
      refine .seq ?_
      refine .block ?_
      refine .seq ?_
      refine .seq ?_
      refine run_reg ?_
      refine e_end ?_
      refine g_v1 (t := 2) (u := (.ref (.bx 2) 0 [] (.agg [(.int .i64 g_1.1), (Enc.enc (g_1.2 : List (Int × Int)))]))) (.agg [(.int .i64 g_1.1), (Enc.enc (g_1.2 : List (Int × Int)))]) h2 rfl rfl ?_
      refine g_v1 (t := 5) (u := (.ref (.bx 5) 0 [] (.agg [(Enc.enc (s_8 : List Int)), (Enc.enc (s_9 : List Int))]))) (.agg [(Enc.enc (s_8 : List Int)), (Enc.enc (s_9 : List Int))]) h5 rfl rfl ?_
      refine g_v1 (t := 1) (u := (Enc.enc (program_2 : List Int))) (Enc.enc (program_2 : List Int)) h1 rfl rfl ?_
      refine g_v1 (t := 6) (u := (.int .i64 i_10)) (.int .i64 i_10) h6 rfl rfl ?_
      obtain ⟨e_15, E_e_15, h⟩ := bind_some h
      refine g_v (.ref .sh 0 [] (.int .i64 e_15)) (ev_idx (t := .sh) (lo := 0) (xs := program_2) rfl rfl E_e_15 rfl rfl) ?_
      refine g_v1 (t := 19) (u := (.ref .sh 0 [] (.int .i64 e_15))) (.int .i64 e_15) rfl rfl rfl ?_
      obtain ⟨r_16, E_r_16, h⟩ := bind_some h
      refine g_call (m := 0) (al := false) (r := (Enc.enc (r_16 : Bool))) [Enc.enc (g_1 : (Int × (List (Int × Int)))), Enc.enc ((s_8, s_9) : ((List Int) × (List Int))), Enc.enc (e_15 : Int)] (ta_cons (v := (.agg [(.int .i64 g_1.1), (Enc.enc (g_1.2 : List (Int × Int)))])) rfl rfl (Enc.erase_enc (g_1 : (Int × (List (Int × Int))))) (ta_cons (v := (.agg [(Enc.enc (s_8 : List Int)), (Enc.enc (s_9 : List Int))])) rfl rfl (Enc.erase_enc ((s_8, s_9) : ((List Int) × (List Int)))) (ta_cons (v := (.int .i64 e_15)) rfl rfl rfl ta_nil))) (H.c126 _ _ _ _ E_r_16) H.g126 rfl rfl rfl rfl ?_
      refine g_v1 (t := 21) (u := (.bool r_16)) (.bool (!r_16)) rfl rfl rfl ?_
      refine g_end ?_
      refine e_end ?_
      refine renew [(1, (Enc.enc (program_2 : List Int))), (2, (.ref (.bx 2) 0 [] (.agg [(.int .i64 g_1.1), (Enc.enc (g_1.2 : List (Int × Int)))]))), (4, (.bool false)), (5, (.ref (.bx 5) 0 [] (.agg [(Enc.enc (s_8 : List Int)), (Enc.enc (s_9 : List Int))]))), (6, (.int .i64 i_10)), (22, (.bool (!r_16)))] ⟨h1, h2, h4, h5, h6, rfl⟩ ?_
      rintro s ⟨h1, h2, h4, h5, h6, h22⟩
      refine .nsq ?_
      refine run_cond (t := (!r_16)) h22 h (fun h => ?_) (fun h => ?_)
      · refine .seq ?_
        refine run_reg ?_
        refine e_end ?_
        refine g_v0 (.bool false) rfl rfl ?_
        refine g_end ?_
        refine e_end ?_
        refine renew [(1, (Enc.enc (program_2 : List Int))), (2, (.ref (.bx 2) 0 [] (.agg [(.int .i64 g_1.1), (Enc.enc (g_1.2 : List (Int × Int)))]))), (4, (.bool false)), (5, (.ref (.bx 5) 0 [] (.agg [(Enc.enc (s_8 : List Int)), (Enc.enc (s_9 : List Int))]))), (6, (.int .i64 i_10))] ⟨h1, h2, rfl, h5, h6⟩ ?_
        rintro s ⟨h1, h2, h4, h5, h6⟩
        refine .nsq ?_
        refine .ret ?_
        have hr := Option.some.inj h
        subst hr
        exact rrA (res_tmp h4) rfl
      · refine .skip ?_
        refine .nsq ?_
        refine run_reg ?_
        refine e_end ?_
        refine g_v1 (t := 2) (u := (.ref (.bx 2) 0 [] (.agg [(.int .i64 g_1.1), (Enc.enc (g_1.2 : List (Int × Int)))]))) (.agg [(.int .i64 g_1.1), (Enc.enc (g_1.2 : List (Int × Int)))]) h2 rfl rfl ?_
        refine g_v1 (t := 5) (u := (.ref (.bx 5) 0 [] (.agg [(Enc.enc (s_8 : List Int)), (Enc.enc (s_9 : List Int))]))) (.agg [(Enc.enc (s_8 : List Int)), (Enc.enc (s_9 : List Int))]) h5 rfl rfl ?_
        refine g_v1 (t := 1) (u := (Enc.enc (program_2 : List Int))) (Enc.enc (program_2 : List Int)) h1 rfl rfl ?_
        refine g_v1 (t := 6) (u := (.int .i64 i_10)) (.int .i64 i_10) h6 rfl rfl ?_
        obtain ⟨e_17, E_e_17, h⟩ := bind_some h
        refine g_v (.ref .sh 0 [] (.int .i64 e_17)) (ev_idx (t := .sh) (lo := 0) (xs := program_2) rfl rfl E_e_17 rfl rfl) ?_
        refine g_v1 (t := 27) (u := (.ref .sh 0 [] (.int .i64 e_17))) (.int .i64 e_17) rfl rfl rfl ?_
        obtain ⟨r_18, E_r_18, h⟩ := bind_some h
        refine g_call (m := 0) (al := true) (r := (Enc.enc (r_18 : ((List Int) × (List Int))))) [Enc.enc (g_1 : (Int × (List (Int × Int)))), Enc.enc ((s_8, s_9) : ((List Int) × (List Int))), Enc.enc (e_17 : Int)] (ta_cons (v := (.agg [(.int .i64 g_1.1), (Enc.enc (g_1.2 : List (Int × Int)))])) rfl rfl (Enc.erase_enc (g_1 : (Int × (List (Int × Int))))) (ta_cons (v := (.agg [(Enc.enc (s_8 : List Int)), (Enc.enc (s_9 : List Int))])) rfl rfl (Enc.erase_enc ((s_8, s_9) : ((List Int) × (List Int)))) (ta_cons (v := (.int .i64 e_17)) rfl rfl rfl ta_nil))) (H.c127 _ _ _ _ E_r_18) H.g127 (hal_of (ht_cons (v := (.agg [(.int .i64 g_1.1), (Enc.enc (g_1.2 : List (Int × Int)))])) rfl rfl rfl (ht_cons (v := (.agg [(Enc.enc (s_8 : List Int)), (Enc.enc (s_9 : List Int))])) rfl rfl rfl (ht_cons (v := (.int .i64 e_17)) rfl rfl rfl ht_nil)))) rfl rfl rfl ?_
        refine g_store (.agg [(Enc.enc (r_18.1 : List Int)), (Enc.enc (r_18.2 : List Int))]) (rd_of h5 rfl) (rd_of rfl rfl) (by refine ⟨by decide, by decide, rfl, rfl, rfl, ?_⟩; first | rfl | simp [V.toks, V.tokss, Enc.toks_enc]) ?_
        refine g_end ?_
        refine e_end ?_
        refine renew [(1, (Enc.enc (program_2 : List Int))), (2, (.ref (.bx 2) 0 [] (.agg [(.int .i64 g_1.1), (Enc.enc (g_1.2 : List (Int × Int)))]))), (4, (.bool false)), (5, (.ref (.bx 5) 0 [] (.agg [(Enc.enc (r_18.1 : List Int)), (Enc.enc (r_18.2 : List Int))]))), (6, (.int .i64 i_10))] ⟨(keep_mut h1 (Enc.mut_enc _ _ _ _ (program_2 : List Int))), (keep_mut h2 (mut_ref_ne rfl rfl (mut_agg (muts_cons rfl (muts_cons (Enc.mut_enc _ _ _ _ (g_1.2 : List (Int × Int))) rfl))))), (keep_mut h4 rfl), (keep_mut h5 rfl), (keep_mut h6 rfl)⟩ ?_
        rintro s ⟨h1, h2, h4, h5, h6⟩
        refine .nbk ?_
        refine .nsq ?_
        refine run_reg ?_
        refine e_end ?_
        refine g_v1 (t := 6) (u := (.int .i64 i_10)) (.int .i64 i_10) h6 rfl rfl ?_
        refine g_v1 (t := 13) (u := (.int .i64 i_10)) (.int .i64 (w64 (i_10 + 1))) rfl rfl rfl ?_
        refine g_v1 (t := 14) (u := (.int .i64 (w64 (i_10 + 1)))) (.int .i64 (w64 (i_10 + 1))) rfl rfl rfl ?_
        refine g_end ?_
        refine e_end ?_
        refine renew [(1, (Enc.enc (program_2 : List Int))), (2, (.ref (.bx 2) 0 [] (.agg [(.int .i64 g_1.1), (Enc.enc (g_1.2 : List (Int × Int)))]))), (4, (.bool false)), (5, (.ref (.bx 5) 0 [] (.agg [(Enc.enc (r_18.1 : List Int)), (Enc.enc (r_18.2 : List Int))]))), (6, (.int .i64 (w64 (i_10 + 1))))] ⟨h1, h2, h4, h5, rfl⟩ ?_
        rintro s ⟨h1, h2, h4, h5, h6⟩
        refine .nlp ?_
        exact ih r_18.1 r_18.2 (w64 (i_10 + 1)) _ ⟨h1, h2, h4, h5, h6⟩ h
    · refine .exit ?_
      refine .esq ?_
      refine .elp ?_
      refine .ebk ?_
      refine .nsq ?_
      refine .seq ?_
      refine run_reg ?_
      refine e_end ?_
      refine g_v1 (t := 1) (u := (Enc.enc (program_2 : List Int))) (Enc.enc (program_2 : List Int)) h1 rfl rfl ?_
      refine g_v (.int .i64 (program_2.length : Int)) (ev_len (xs := program_2) rfl) ?_
      refine g_v1 (t := 31) (u := (.int .i64 (program_2.length : Int))) (.bool (decide ((program_2.length : Int) ≤ 40))) rfl rfl rfl ?_
      refine g_v1 (t := 32) (u := (.bool (decide ((program_2.length : Int) ≤ 40)))) (.bool (decide ((program_2.length : Int) ≤ 40))) rfl rfl rfl ?_
      refine g_end ?_
      refine e_end ?_
      refine renew [(4, (.bool (decide ((program_2.length : Int) ≤ 40))))] rfl ?_
      rintro s h4
      refine .nsq ?_
      refine .ret ?_
      have hr := Option.some.inj h
      subst hr
      exact rrA (res_tmp h4) rfl
def s_l6Program (F : Nat) (g_1 : (Int × (List (Int × Int)))) (program_2 : (List Int)) : Option Bool :=
  (s_l6Begin F g_1).bind fun r_3 =>
  s_l6Program_l1 F program_2 g_1 F r_3.1 r_3.2 0
theorem t90 (H : H90 D σ F) (g_1 : (Int × (List (Int × Int)))) (program_2 : (List Int)) (s : Nat → V) (hs : Facts [(0, (.agg [(.int .i64 g_1.1), (Enc.enc (g_1.2 : List (Int × Int)))])), (1, (Enc.enc (program_2 : List Int)))] s) (h : s_l6Program F g_1 program_2 = some r) : Run D σ (R90 r) (.run A90 []) s := by
  unfold s_l6Program at h
  obtain ⟨h0, h1⟩ := hs
  refine .seq ?_
  refine run_reg ?_
  refine e_clr ?_
  refine e_end ?_
  refine g_box (.agg [(.int .i64 g_1.1), (Enc.enc (g_1.2 : List (Int × Int)))]) (rd_of (keep_clear (s := s) (pk := [2]) h0 rfl (map_agg (maps_cons rfl (maps_cons (Enc.map_enc _ (g_1.2 : List (Int × Int))) maps_nil)))) rfl) (gone_clear (s := s) (pk := [2]) (t := 2) rfl) rfl ?_
  refine g_v0 (.bool false) rfl rfl ?_
  refine g_end ?_
  refine e_end ?_
  refine renew [(1, (Enc.enc (program_2 : List Int))), (2, (.ref (.bx 2) 0 [] (.agg [(.int .i64 g_1.1), (Enc.enc (g_1.2 : List (Int × Int)))]))), (4, (.bool false))] ⟨(keep_clear (s := s) (pk := [2]) h1 rfl (Enc.map_enc _ (program_2 : List Int))), rfl, rfl⟩ ?_
  rintro s ⟨h1, h2, h4⟩
  refine .nsq ?_
  refine .seq ?_
  refine run_reg ?_
  refine e_clr ?_
  refine e_end ?_
  refine g_v1 (t := 2) (u := (.ref (.bx 2) 0 [] (.agg [(.int .i64 g_1.1), (Enc.enc (g_1.2 : List (Int × Int)))]))) (.agg [(.int .i64 g_1.1), (Enc.enc (g_1.2 : List (Int × Int)))]) (keep_clear (s := s) (pk := [5]) h2 rfl (map_bx rfl (map_agg (maps_cons rfl (maps_cons (Enc.map_enc _ (g_1.2 : List (Int × Int))) maps_nil))))) rfl rfl ?_
  obtain ⟨r_3, E_r_3, h⟩ := bind_some h
  refine g_call (m := 0) (al := true) (r := (Enc.enc (r_3 : ((List Int) × (List Int))))) [Enc.enc (g_1 : (Int × (List (Int × Int))))] (ta_cons (v := (.agg [(.int .i64 g_1.1), (Enc.enc (g_1.2 : List (Int × Int)))])) rfl rfl (Enc.erase_enc (g_1 : (Int × (List (Int × Int))))) ta_nil) (H.c125 _ _ E_r_3) H.g125 (hal_of (ht_cons (v := (.agg [(.int .i64 g_1.1), (Enc.enc (g_1.2 : List (Int × Int)))])) rfl rfl rfl ht_nil)) rfl rfl rfl ?_
  refine g_alloc (gone_clear (s := s) (pk := [5]) (t := 5) rfl) ?_
  refine g_store (.agg [(Enc.enc (r_3.1 : List Int)), (Enc.enc (r_3.2 : List Int))]) (rd_of rfl rfl) (rd_of rfl rfl) (by refine ⟨by decide, by decide, rfl, rfl, rfl, ?_⟩; first | rfl | simp [V.toks, V.tokss, Enc.toks_enc]) ?_
  refine g_end ?_
  refine e_end ?_
  refine renew [(1, (Enc.enc (program_2 : List Int))), (2, (.ref (.bx 2) 0 [] (.agg [(.int .i64 g_1.1), (Enc.enc (g_1.2 : List (Int × Int)))]))), (4, (.bool false)), (5, (.ref (.bx 5) 0 [] (.agg [(Enc.enc (r_3.1 : List Int)), (Enc.enc (r_3.2 : List Int))])))] ⟨(keep_mut (keep_clear (s := s) (pk := [5]) h1 rfl (Enc.map_enc _ (program_2 : List Int))) (Enc.mut_enc _ _ _ _ (program_2 : List Int))), (keep_mut (keep_clear (s := s) (pk := [5]) h2 rfl (map_bx rfl (map_agg (maps_cons rfl (maps_cons (Enc.map_enc _ (g_1.2 : List (Int × Int))) maps_nil))))) (mut_ref_ne rfl rfl (mut_agg (muts_cons rfl (muts_cons (Enc.mut_enc _ _ _ _ (g_1.2 : List (Int × Int))) rfl))))), (keep_mut (keep_clear (s := s) (pk := [5]) h4 rfl rfl) rfl), (keep_mut rfl rfl)⟩ ?_
  rintro s ⟨h1, h2, h4, h5⟩
  refine .nsq ?_
  refine .seq ?_
  refine .seq ?_
  refine run_reg ?_
  refine e_end ?_
  refine g_v0 (.int .i64 0) rfl rfl ?_
  refine g_end ?_
  refine e_end ?_
  refine renew [(1, (Enc.enc (program_2 : List Int))), (2, (.ref (.bx 2) 0 [] (.agg [(.int .i64 g_1.1), (Enc.enc (g_1.2 : List (Int × Int)))]))), (4, (.bool false)), (5, (.ref (.bx 5) 0 [] (.agg [(Enc.enc (r_3.1 : List Int)), (Enc.enc (r_3.2 : List Int))]))), (6, (.int .i64 0))] ⟨h1, h2, h4, h5, rfl⟩ ?_
  rintro s ⟨h1, h2, h4, h5, h6⟩
  refine .nsq ?_
  refine .block ?_
  refine .loop ?_
  exact t_f90_l1 H program_2 g_1 F r_3.1 r_3.2 0 _ ⟨h1, h2, h4, h5, h6⟩ h
end
def e90 (F : Nat) : Ent := ⟨90, dn2 (s_l6Program F) (fun (r : Bool) => (Enc.enc (r : Bool))), 0, false⟩
theorem o90 {D : Den} {σ : Sig} {F : Nat} (hF : Fits2 Try.prog D σ) (H : H90 D σ F) : (e90 F).Ok Try.prog := by
  refine ⟨fun args r h => ?_, ⟨Try.f90, Try.func90, rfl, rfl⟩⟩
  obtain ⟨x0, x1, y, rfl, hy, rfl⟩ := dn2_open h
  exact contract_run hF (by kernel_rfl) Try.func90 rfl c90 (show 2 ≤ Try.f90.ntmps by decide) (t90 H x0 x1 _ ⟨rfl, rfl⟩ hy)
/- loop.example/g01109/spec.IsProgram -/
def A38_2 : AC := (AC.cond (O.t 8) (AC.seq (AC.reg [] [(I.mk (some 4) none false (X.v (A.mov (O.k (V.bool false))))), (I.mk (some 5) none false (X.v (A.mov (O.k (V.bool false)))))] []) AC.ret) AC.skip)
def A38_3 : AC := (AC.seq (AC.reg [] [(I.mk (some 9) none false (X.v (A.load (Sh.ag [Sh.s, Sh.p]) (O.t 2)))), (I.mk (some 10) none false (X.v (A.mov (O.t 1)))), (I.mk (some 11) none false (X.call (O.k (V.fn 90 [] [])) [(O.t 9), (O.t 10)])), (I.mk (some 4) none false (X.v (A.mov (O.t 11)))), (I.mk (some 5) none false (X.v (A.mov (O.k (V.bool true)))))] []) AC.ret)
def A38_1 : AC := (AC.seq (AC.seq (AC.reg [] [(I.mk (some 6) none false (X.v (A.load (Sh.ag [Sh.s, Sh.p]) (O.t 2)))), (I.mk (some 7) none false (X.call (O.k (V.fn 45 [] [])) [(O.t 6)])), (I.mk (some 8) none false (X.v (A.un UnOp.not (O.t 7))))] []) A38_2) A38_3)
def A38 : AC := (AC.seq (AC.reg [.clr [2]] [(I.mk (some 2) none false (X.box (O.t 0))), (I.mk (some 4) none false (X.v (A.mov (O.k (V.bool false))))), (I.mk (some 5) none false (X.v (A.mov (O.k (V.bool false)))))] []) A38_1)
def an38 : List An := [{ id := 0, pre := [.clr [2]], ep := [], lin := [], sp := [] }]
theorem c38 : cC Try.prog Try.f38.ntmps an38 (Try.f38.body.getD .skip) = some A38 := by kernel_rfl
structure H38 (D : Den) (σ : Sig) (F : Nat) : Prop where
  c45 : ∀ x0 r, s_l2Good F x0 = some r → D 45 [Enc.enc x0] = some (Enc.enc (r : Bool))
  g45 : σ 45 = some (0, false)
  c90 : ∀ x0 x1 r, s_l6Program F x0 x1 = some r → D 90 [Enc.enc x0, Enc.enc x1] = some (Enc.enc (r : Bool))
  g90 : σ 90 = some (0, false)
abbrev R38 (r : (Bool × Bool)) : (Nat → V) → Prop := RR Try.prog [.tmp 4, .tmp 5] 0 false (.tup [Enc.enc (r.1 : Bool), Enc.enc (r.2 : Bool)])
section
variable {D : Den} {σ : Sig} {F : Nat} {r : (Bool × Bool)}
def s_IsProgram (F : Nat) (g_1 : (Int × (List (Int × Int)))) (program_2 : (List Int)) : Option (Bool × Bool) :=
  (s_l2Good F g_1).bind fun r_3 =>
  bif (!r_3) then
    some (false, false)
  else
    (s_l6Program F g_1 program_2).bind fun r_4 =>
    some (r_4, true)
theorem t38 (H : H38 D σ F) (g_1 : (Int × (List (Int × Int)))) (program_2 : (List Int)) (s : Nat → V) (hs : Facts [(0, (.agg [(.int .i64 g_1.1), (Enc.enc (g_1.2 : List (Int × Int)))])), (1, (Enc.enc (program_2 : List Int)))] s) (h : s_IsProgram F g_1 program_2 = some r) : Run D σ (R38 r) (.run A38 []) s := by
  unfold s_IsProgram at h
  obtain ⟨h0, h1⟩ := hs
  refine .seq ?_
  refine run_reg ?_
  refine e_clr ?_
  refine e_end ?_
  refine g_box (.agg [(.int .i64 g_1.1), (Enc.enc (g_1.2 : List (Int × Int)))]) (rd_of (keep_clear (s := s) (pk := [2]) h0 rfl (map_agg (maps_cons rfl (maps_cons (Enc.map_enc _ (g_1.2 : List (Int × Int))) maps_nil)))) rfl) (gone_clear (s := s) (pk := [2]) (t := 2) rfl) rfl ?_
  refine g_v0 (.bool false) rfl rfl ?_
  refine g_v0 (.bool false) rfl rfl ?_
  refine g_end ?_
  refine e_end ?_
  refine renew [(1, (Enc.enc (program_2 : List Int))), (2, (.ref (.bx 2) 0 [] (.agg [(.int .i64 g_1.1), (Enc.enc (g_1.2 : List (Int × Int)))]))), (4, (.bool false)), (5, (.bool false))] ⟨(keep_clear (s := s) (pk := [2]) h1 rfl (Enc.map_enc _ (program_2 : List Int))), rfl, rfl, rfl⟩ ?_
  rintro s ⟨h1, h2, h4, h5⟩
  refine .nsq ?_
  refine .seq ?_
  refine .seq ?_
  refine run_reg ?_
  refine e_end ?_
  refine g_v1 (t := 2) (u := (.ref (.bx 2) 0 [] (.agg [(.int .i64 g_1.1), (Enc.enc (g_1.2 : List (Int × Int)))]))) (.agg [(.int .i64 g_1.1), (Enc.enc (g_1.2 : List (Int × Int)))]) h2 rfl rfl ?_
  obtain ⟨r_3, E_r_3, h⟩ := bind_some h
  refine g_call (m := 0) (al := false) (r := (Enc.enc (r_3 : Bool))) [Enc.enc (g_1 : (Int × (List (Int × Int))))] (ta_cons (v := (.agg [(.int .i64 g_1.1), (Enc.enc (g_1.2 : List (Int × Int)))])) rfl rfl (Enc.erase_enc (g_1 : (Int × (List (Int × Int))))) ta_nil) (H.c45 _ _ E_r_3) H.g45 rfl rfl rfl rfl ?_
  refine g_v1 (t := 7) (u := (.bool r_3)) (.bool (!r_3)) rfl rfl rfl ?_
  refine g_end ?_
  refine e_end ?_
  refine renew [(1, (Enc.enc (program_2 : List Int))), (2, (.ref (.bx 2) 0 [] (.agg [(.int .i64 g_1.1), (Enc.enc (g_1.2 : List (Int × Int)))]))), (4, (.bool false)), (5, (.bool false)), (8, (.bool (!r_3)))] ⟨h1, h2, h4, h5, rfl⟩ ?_
  rintro s ⟨h1, h2, h4, h5, h8⟩
  refine .nsq ?_
  refine run_cond (t := (!r_3)) h8 h (fun h => ?_) (fun h => ?_)
  · refine .seq ?_
    refine run_reg ?_
    refine e_end ?_
    refine g_v0 (.bool false) rfl rfl ?_
    refine g_v0 (.bool false) rfl rfl ?_
    refine g_end ?_
    refine e_end ?_
    refine renew [(1, (Enc.enc (program_2 : List Int))), (2, (.ref (.bx 2) 0 [] (.agg [(.int .i64 g_1.1), (Enc.enc (g_1.2 : List (Int × Int)))]))), (4, (.bool false)), (5, (.bool false))] ⟨h1, h2, rfl, rfl⟩ ?_
    rintro s ⟨h1, h2, h4, h5⟩
    refine .nsq ?_
    refine .ret ?_
    have hr := Option.some.inj h
    subst hr
    exact rrB (res_tmp h4) (res_tmp h5) rfl
  · refine .skip ?_
    refine .nsq ?_
    refine .seq ?_
    refine run_reg ?_
    refine e_end ?_
    refine g_v1 (t := 2) (u := (.ref (.bx 2) 0 [] (.agg [(.int .i64 g_1.1), (Enc.enc (g_1.2 : List (Int × Int)))]))) (.agg [(.int .i64 g_1.1), (Enc.enc (g_1.2 : List (Int × Int)))]) h2 rfl rfl ?_
    refine g_v1 (t := 1) (u := (Enc.enc (program_2 : List Int))) (Enc.enc (program_2 : List Int)) h1 rfl rfl ?_
    obtain ⟨r_4, E_r_4, h⟩ := bind_some h
    refine g_call (m := 0) (al := false) (r := (Enc.enc (r_4 : Bool))) [Enc.enc (g_1 : (Int × (List (Int × Int)))), Enc.enc (program_2 : (List Int))] (ta_cons (v := (.agg [(.int .i64 g_1.1), (Enc.enc (g_1.2 : List (Int × Int)))])) rfl rfl (Enc.erase_enc (g_1 : (Int × (List (Int × Int))))) (ta_cons (v := (Enc.enc (program_2 : List Int))) rfl rfl (Enc.erase_enc (program_2 : (List Int))) ta_nil)) (H.c90 _ _ _ E_r_4) H.g90 rfl rfl rfl rfl ?_
    refine g_v1 (t := 11) (u := (.bool r_4)) (.bool r_4) rfl rfl rfl ?_
    refine g_v0 (.bool true) rfl rfl ?_
    refine g_end ?_
    refine e_end ?_
    refine renew [(4, (.bool r_4)), (5, (.bool true))] ⟨rfl, rfl⟩ ?_
    rintro s ⟨h4, h5⟩
    refine .nsq ?_
    refine .ret ?_
    have hr := Option.some.inj h
    subst hr
    exact rrB (res_tmp h4) (res_tmp h5) rfl
end
def e38 (F : Nat) : Ent := ⟨38, dn2 (s_IsProgram F) (fun (r : (Bool × Bool)) => (.tup [Enc.enc (r.1 : Bool), Enc.enc (r.2 : Bool)])), 0, false⟩
theorem o38 {D : Den} {σ : Sig} {F : Nat} (hF : Fits2 Try.prog D σ) (H : H38 D σ F) : (e38 F).Ok Try.prog := by
  refine ⟨fun args r h => ?_, ⟨Try.f38, Try.func38, rfl, rfl⟩⟩
  obtain ⟨x0, x1, y, rfl, hy, rfl⟩ := dn2_open h
  exact contract_run hF (by kernel_rfl) Try.func38 rfl c38 (show 2 ≤ Try.f38.ntmps by decide) (t38 H x0 x1 _ ⟨rfl, rfl⟩ hy)
/- loop.example/g01109/impl.within -/
def A66_1 : AC := (AC.seq (AC.reg [] [(I.mk (some 7) none false (X.v (A.mov (O.t 0)))), (I.mk (some 8) none false (X.v (A.mov (O.t 1)))), (I.mk (some 9) none false (X.v (A.bin BinOp.geq (O.t 7) (O.t 8)))), (I.mk (some 10) none false (X.v (A.mov (O.t 9)))), (I.mk (some 11) (some (10, true)) false (X.v (A.mov (O.t 0)))), (I.mk (some 12) (some (10, true)) false (X.v (A.mov (O.t 2)))), (I.mk (some 13) (some (10, true)) false (X.v (A.bin BinOp.leq (O.t 11) (O.t 12)))), (I.mk (some 14) none false (X.v (A.pick (O.t 10) (O.t 13) (O.k (V.bool false))))), (I.mk (some 6) none false (X.v (A.mov (O.t 14))))] []) AC.ret)
def A66 : AC := (AC.seq (AC.reg [] [(I.mk (some 6) none false (X.v (A.mov (O.k (V.bool false)))))] []) A66_1)
def an66 : List An := []
theorem c66 : cC Try.prog Try.f66.ntmps an66 (Try.f66.body.getD .skip) = some A66 := by kernel_rfl
structure H66 (D : Den) (σ : Sig) (F : Nat) : Prop where
  mk ::
abbrev R66 (r : Bool) : (Nat → V) → Prop := RR Try.prog [.tmp 6] 0 false (Enc.enc (r : Bool))
section
variable {D : Den} {σ : Sig} {F : Nat} {r : Bool}
def i_within (F : Nat) (n_1 : Int) (low_2 : Int) (high_3 : Int) : Option Bool :=
  bif decide (n_1 ≥ low_2) then
    some (decide (n_1 ≤ high_3))
  else
    some false
theorem t66 (H : H66 D σ F) (n_1 : Int) (low_2 : Int) (high_3 : Int) (s : Nat → V) (hs : Facts [(0, (.int .i64 n_1)), (1, (.int .i64 low_2)), (2, (.int .i64 high_3))] s) (h : i_within F n_1 low_2 high_3 = some r) : Run D σ (R66 r) (.run A66 []) s := by
  unfold i_within at h
  obtain ⟨h0, h1, h2⟩ := hs
  refine .seq ?_
  refine run_reg ?_
  refine e_end ?_
  refine g_v0 (.bool false) rfl rfl ?_
  refine g_end ?_
  refine e_end ?_
  refine renew [(0, (.int .i64 n_1)), (1, (.int .i64 low_2)), (2, (.int .i64 high_3)), (6, (.bool false))] ⟨h0, h1, h2, rfl⟩ ?_
  rintro s ⟨h0, h1, h2, h6⟩
  refine .nsq ?_
  refine .seq ?_
  refine run_reg ?_
  refine e_end ?_
  refine g_v1 (t := 0) (u := (.int .i64 n_1)) (.int .i64 n_1) h0 rfl rfl ?_
  refine g_v1 (t := 1) (u := (.int .i64 low_2)) (.int .i64 low_2) h1 rfl rfl ?_
  refine g_v2 (t1 := 7) (t2 := 8) (u1 := (.int .i64 n_1)) (u2 := (.int .i64 low_2)) (.bool (decide (n_1 ≥ low_2))) rfl rfl rfl rfl ?_
  refine g_v1 (t := 9) (u := (.bool (decide (n_1 ≥ low_2)))) (.bool (decide (n_1 ≥ low_2))) rfl rfl rfl ?_
  refine split_on (c := decide (n_1 ≥ low_2)) h (fun hg4 h => ?_) (fun hg4 h => ?_)
  · refine g_yes (Eq.trans (b := .bool (decide (n_1 ≥ low_2))) rfl (congrArg V.bool hg4)) (g_v1 (t := 0) (u := (.int .i64 n_1)) (.int .i64 n_1) h0 rfl rfl ?_)
    refine g_yes (Eq.trans (b := .bool (decide (n_1 ≥ low_2))) rfl (congrArg V.bool hg4)) (g_v1 (t := 2) (u := (.int .i64 high_3)) (.int .i64 high_3) h2 rfl rfl ?_)
    refine g_yes (Eq.trans (b := .bool (decide (n_1 ≥ low_2))) rfl (congrArg V.bool hg4)) (g_v2 (t1 := 11) (t2 := 12) (u1 := (.int .i64 n_1)) (u2 := (.int .i64 high_3)) (.bool (decide (n_1 ≤ high_3))) rfl rfl rfl rfl ?_)
    refine g_v2 (t1 := 10) (t2 := 13) (u1 := (.bool true)) (u2 := (.bool (decide (n_1 ≤ high_3)))) (.bool (decide (n_1 ≤ high_3))) (Eq.trans (b := .bool (decide (n_1 ≥ low_2))) rfl (congrArg V.bool hg4)) rfl rfl rfl ?_
    refine g_v1 (t := 14) (u := (.bool (decide (n_1 ≤ high_3)))) (.bool (decide (n_1 ≤ high_3))) rfl rfl rfl ?_
    refine g_end ?_
    refine e_end ?_
    refine renew [(6, (.bool (decide (n_1 ≤ high_3))))] rfl ?_
    rintro s h6
    refine .nsq ?_
    refine .ret ?_
    have hr := Option.some.inj h
    subst hr
    exact rrA (res_tmp h6) rfl
  · refine g_no (Eq.trans (b := .bool (decide (n_1 ≥ low_2))) rfl (congrArg V.bool hg4)) ?_
    refine g_no (Eq.trans (b := .bool (decide (n_1 ≥ low_2))) rfl (congrArg V.bool hg4)) ?_
    refine g_no (Eq.trans (b := .bool (decide (n_1 ≥ low_2))) rfl (congrArg V.bool hg4)) ?_
    refine g_v2 (t1 := 10) (t2 := 13) (u1 := (.bool false)) (u2 := (.tup [])) (.bool false) (Eq.trans (b := .bool (decide (n_1 ≥ low_2))) rfl (congrArg V.bool hg4)) rfl rfl rfl ?_
    refine g_v1 (t := 14) (u := (.bool false)) (.bool false) rfl rfl rfl ?_
    refine g_end ?_
    refine e_end ?_
    refine renew [(6, (.bool false))] rfl ?_
    rintro s h6
    refine .nsq ?_
    refine .ret ?_
    have hr := Option.some.inj h
    subst hr
    exact rrA (res_tmp h6) rfl
end
def e66 (F : Nat) : Ent := ⟨66, dn3 (i_within F) (fun (r : Bool) => (Enc.enc (r : Bool))), 0, false⟩
theorem o66 {D : Den} {σ : Sig} {F : Nat} (hF : Fits2 Try.prog D σ) (H : H66 D σ F) : (e66 F).Ok Try.prog := by
  refine ⟨fun args r h => ?_, ⟨Try.f66, Try.func66, rfl, rfl⟩⟩
  obtain ⟨x0, x1, x2, y, rfl, hy, rfl⟩ := dn3_open h
  exact contract_run hF (by kernel_rfl) Try.func66 rfl c66 (show 3 ≤ Try.f66.ntmps by decide) (t66 H x0 x1 x2 _ ⟨rfl, rfl, rfl⟩ hy)
/- cmp.isNaN[int] -/
def A141_1 : AC := (AC.seq (AC.reg [] [(I.mk (some 3) none false (X.v (A.mov (O.t 0)))), (I.mk (some 4) none false (X.v (A.mov (O.t 0)))), (I.mk (some 5) none false (X.v (A.bin BinOp.neq (O.t 3) (O.t 4)))), (I.mk (some 2) none false (X.v (A.mov (O.t 5))))] []) AC.ret)
def A141 : AC := (AC.seq (AC.reg [] [(I.mk (some 2) none false (X.v (A.mov (O.k (V.bool false)))))] []) A141_1)
def an141 : List An := []
theorem c141 : cC Try.prog Try.f141.ntmps an141 (Try.f141.body.getD .skip) = some A141 := by kernel_rfl
structure H141 (D : Den) (σ : Sig) (F : Nat) : Prop where
  mk ::
abbrev R141 (r : Bool) : (Nat → V) → Prop := RR Try.prog [.tmp 2] 0 false (Enc.enc (r : Bool))
section
variable {D : Den} {σ : Sig} {F : Nat} {r : Bool}
def cmp_isNaN_int (F : Nat) (x_1 : Int) : Option Bool :=
  some (x_1 != x_1)
theorem t141 (H : H141 D σ F) (x_1 : Int) (s : Nat → V) (hs : Facts [(0, (.int .i64 x_1))] s) (h : cmp_isNaN_int F x_1 = some r) : Run D σ (R141 r) (.run A141 []) s := by
  unfold cmp_isNaN_int at h
  have h0 := hs
  refine .seq ?_
  refine run_reg ?_
  refine e_end ?_
  refine g_v0 (.bool false) rfl rfl ?_
  refine g_end ?_
  refine e_end ?_
  refine renew [(0, (.int .i64 x_1)), (2, (.bool false))] ⟨h0, rfl⟩ ?_
  rintro s ⟨h0, h2⟩
  refine .nsq ?_
  refine .seq ?_
  refine run_reg ?_
  refine e_end ?_
  refine g_v1 (t := 0) (u := (.int .i64 x_1)) (.int .i64 x_1) h0 rfl rfl ?_
  refine g_v1 (t := 0) (u := (.int .i64 x_1)) (.int .i64 x_1) h0 rfl rfl ?_
  refine g_v2 (t1 := 3) (t2 := 4) (u1 := (.int .i64 x_1)) (u2 := (.int .i64 x_1)) (.bool (x_1 != x_1)) rfl rfl rfl rfl ?_
  refine g_v1 (t := 5) (u := (.bool (x_1 != x_1))) (.bool (x_1 != x_1)) rfl rfl rfl ?_
  refine g_end ?_
  refine e_end ?_
  refine renew [(2, (.bool (x_1 != x_1)))] rfl ?_
  rintro s h2
  refine .nsq ?_
  refine .ret ?_
  have hr := Option.some.inj h
  subst hr
  exact rrA (res_tmp h2) rfl
end
def e141 (F : Nat) : Ent := ⟨141, dn1 (cmp_isNaN_int F) (fun (r : Bool) => (Enc.enc (r : Bool))), 0, false⟩
theorem o141 {D : Den} {σ : Sig} {F : Nat} (hF : Fits2 Try.prog D σ) (H : H141 D σ F) : (e141 F).Ok Try.prog := by
  refine ⟨fun args r h => ?_, ⟨Try.f141, Try.func141, rfl, rfl⟩⟩
  obtain ⟨x0, y, rfl, hy, rfl⟩ := dn1_open h
  exact contract_run hF (by kernel_rfl) Try.func141 rfl c141 (show 1 ≤ Try.f141.ntmps by decide) (t141 H x0 _ rfl hy)
/- cmp.Compare[int] -/
def A131_5 : AC := (AC.cond (O.t 12) (AC.seq (AC.reg [] [(I.mk (some 4) none false (X.v (A.mov (O.k (V.int IntKind.i64 (Int.ofNat 0))))))] []) AC.ret) AC.skip)
def A131_6 : AC := (AC.seq (AC.reg [] [(I.mk (some 4) none false (X.v (A.mov (O.k (V.int IntKind.i64 (Int.negSucc 0))))))] []) AC.ret)
def A131_4 : AC := (AC.cond (O.t 11) (AC.seq (AC.seq (AC.reg [] [(I.mk (some 12) none false (X.v (A.mov (O.t 6))))] []) A131_5) A131_6) AC.skip)
def A131_8 : AC := (AC.cond (O.t 13) (AC.seq (AC.reg [] [(I.mk (some 4) none false (X.v (A.mov (O.k (V.int IntKind.i64 (Int.ofNat 1))))))] []) AC.ret) AC.skip)
def A131_10 : AC := (AC.cond (O.t 16) (AC.seq (AC.reg [] [(I.mk (some 4) none false (X.v (A.mov (O.k (V.int IntKind.i64 (Int.negSucc 0))))))] []) AC.ret) AC.skip)
def A131_12 : AC := (AC.cond (O.t 19) (AC.seq (AC.reg [] [(I.mk (some 4) none false (X.v (A.mov (O.k (V.int IntKind.i64 (Int.ofNat 1))))))] []) AC.ret) AC.skip)
def A131_13 : AC := (AC.seq (AC.reg [] [(I.mk (some 4) none false (X.v (A.mov (O.k (V.int IntKind.i64 (Int.ofNat 0))))))] []) AC.ret)
def A131_11 : AC := (AC.seq (AC.seq (AC.reg [] [(I.mk (some 17) none false (X.v (A.mov (O.t 0)))), (I.mk (some 18) none false (X.v (A.mov (O.t 1)))), (I.mk (some 19) none false (X.v (A.bin BinOp.gtr (O.t 17) (O.t 18))))] []) A131_12) A131_13)
def A131_9 : AC := (AC.seq (AC.seq (AC.reg [] [(I.mk (some 14) none false (X.v (A.mov (O.t 0)))), (I.mk (some 15) none false (X.v (A.mov (O.t 1)))), (I.mk (some 16) none false (X.v (A.bin BinOp.lss (O.t 14) (O.t 15))))] []) A131_10) A131_11)
def A131_7 : AC := (AC.seq (AC.seq (AC.reg [] [(I.mk (some 13) none false (X.v (A.mov (O.t 6))))] []) A131_8) A131_9)
def A131_3 : AC := (AC.seq (AC.seq (AC.reg [] [(I.mk (some 11) none false (X.v (A.mov (O.t 5))))] []) A131_4) A131_7)
def A131_2 : AC := (AC.seq (AC.reg [] [(I.mk (some 9) none false (X.v (A.mov (O.t 1)))), (I.mk (some 10) none false (X.call (O.k (V.fn 141 [] [])) [(O.t 9)])), (I.mk (some 6) none false (X.v (A.mov (O.t 10))))] []) A131_3)
def A131_1 : AC := (AC.seq (AC.reg [] [(I.mk (some 7) none false (X.v (A.mov (O.t 0)))), (I.mk (some 8) none false (X.call (O.k (V.fn 141 [] [])) [(O.t 7)])), (I.mk (some 5) none false (X.v (A.mov (O.t 8))))] []) A131_2)
def A131 : AC := (AC.seq (AC.reg [] [(I.mk (some 4) none false (X.v (A.mov (O.k (V.int IntKind.i64 (Int.ofNat 0))))))] []) A131_1)
def an131 : List An := []
theorem c131 : cC Try.prog Try.f131.ntmps an131 (Try.f131.body.getD .skip) = some A131 := by kernel_rfl
structure H131 (D : Den) (σ : Sig) (F : Nat) : Prop where
  c141 : ∀ x0 r, cmp_isNaN_int F x0 = some r → D 141 [Enc.enc x0] = some (Enc.enc (r : Bool))
  g141 : σ 141 = some (0, false)
abbrev R131 (r : Int) : (Nat → V) → Prop := RR Try.prog [.tmp 4] 0 false (Enc.enc (r : Int))
section
variable {D : Den} {σ : Sig} {F : Nat} {r : Int}
def cmp_Compare_int (F : Nat) (x_1 : Int) (y_2 : Int) : Option Int :=
  (cmp_isNaN_int F x_1).bind fun r_3 =>
  (cmp_isNaN_int F y_2).bind fun r_4 =>
  bif r_3 then
    bif r_4 then
      some 0
    else
      some (-1)
  else
    bif r_4 then
      some 1
    else
      bif decide (x_1 < y_2) then
        some (-1)
      else
        bif decide (x_1 > y_2) then
          some 1
        else
          some 0
theorem t131 (H : H131 D σ F) (x_1 : Int) (y_2 : Int) (s : Nat → V) (hs : Facts [(0, (.int .i64 x_1)), (1, (.int .i64 y_2))] s) (h : cmp_Compare_int F x_1 y_2 = some r) : Run D σ (R131 r) (.run A131 []) s := by
  unfold cmp_Compare_int at h
  obtain ⟨h0, h1⟩ := hs
  refine .seq ?_
  refine run_reg ?_
  refine e_end ?_
  refine g_v0 (.int .i64 0) rfl rfl ?_
  refine g_end ?_
  refine e_end ?_
  refine renew [(0, (.int .i64 x_1)), (1, (.int .i64 y_2)), (4, (.int .i64 0))] ⟨h0, h1, rfl⟩ ?_
  rintro s ⟨h0, h1, h4⟩
  refine .nsq ?_
  refine .seq ?_
  refine run_reg ?_
  refine e_end ?_
  refine g_v1 (t := 0) (u := (.int .i64 x_1)) (.int .i64 x_1) h0 rfl rfl ?_
  obtain ⟨r_3, E_r_3, h⟩ := bind_some h
  refine g_call (m := 0) (al := false) (r := (Enc.enc (r_3 : Bool))) [Enc.enc (x_1 : Int)] (ta_cons (v := (.int .i64 x_1)) rfl rfl rfl ta_nil) (H.c141 _ _ E_r_3) H.g141 rfl rfl rfl rfl ?_
  refine g_v1 (t := 8) (u := (.bool r_3)) (.bool r_3) rfl rfl rfl ?_
  refine g_end ?_
  refine e_end ?_
  refine renew [(0, (.int .i64 x_1)), (1, (.int .i64 y_2)), (4, (.int .i64 0)), (5, (.bool r_3))] ⟨h0, h1, h4, rfl⟩ ?_
  rintro s ⟨h0, h1, h4, h5⟩
  refine .nsq ?_
  refine .seq ?_
  refine run_reg ?_
  refine e_end ?_
  refine g_v1 (t := 1) (u := (.int .i64 y_2)) (.int .i64 y_2) h1 rfl rfl ?_
  obtain ⟨r_4, E_r_4, h⟩ := bind_some h
  refine g_call (m := 0) (al := false) (r := (Enc.enc (r_4 : Bool))) [Enc.enc (y_2 : Int)] (ta_cons (v := (.int .i64 y_2)) rfl rfl rfl ta_nil) (H.c141 _ _ E_r_4) H.g141 rfl rfl rfl rfl ?_
  refine g_v1 (t := 10) (u := (.bool r_4)) (.bool r_4) rfl rfl rfl ?_
  refine g_end ?_
  refine e_end ?_
  refine renew [(0, (.int .i64 x_1)), (1, (.int .i64 y_2)), (4, (.int .i64 0)), (5, (.bool r_3)), (6, (.bool r_4))] ⟨h0, h1, h4, h5, rfl⟩ ?_
  rintro s ⟨h0, h1, h4, h5, h6⟩
  refine .nsq ?_
  refine .seq ?_
  refine .seq ?_
  refine run_reg ?_
  refine e_end ?_
  refine g_v1 (t := 5) (u := (.bool r_3)) (.bool r_3) h5 rfl rfl ?_
  refine g_end ?_
  refine e_end ?_
  refine renew [(0, (.int .i64 x_1)), (1, (.int .i64 y_2)), (4, (.int .i64 0)), (6, (.bool r_4)), (11, (.bool r_3))] ⟨h0, h1, h4, h6, rfl⟩ ?_
  rintro s ⟨h0, h1, h4, h6, h11⟩
  refine .nsq ?_
  refine run_cond (t := r_3) h11 h (fun h => ?_) (fun h => ?_)
  · refine .seq ?_
    refine .seq ?_
    refine run_reg ?_
    refine e_end ?_
    refine g_v1 (t := 6) (u := (.bool r_4)) (.bool r_4) h6 rfl rfl ?_
    refine g_end ?_
    refine e_end ?_
    refine renew [(0, (.int .i64 x_1)), (1, (.int .i64 y_2)), (4, (.int .i64 0)), (6, (.bool r_4)), (12, (.bool r_4))] ⟨h0, h1, h4, h6, rfl⟩ ?_
    rintro s ⟨h0, h1, h4, h6, h12⟩
    refine .nsq ?_
    refine run_cond (t := r_4) h12 h (fun h => ?_) (fun h => ?_)
    · refine .seq ?_
      refine run_reg ?_
      refine e_end ?_
      refine g_v0 (.int .i64 0) rfl rfl ?_
      refine g_end ?_
      refine e_end ?_
      refine renew [(0, (.int .i64 x_1)), (1, (.int .i64 y_2)), (4, (.int .i64 0)), (6, (.bool r_4))] ⟨h0, h1, rfl, h6⟩ ?_
      rintro s ⟨h0, h1, h4, h6⟩
      refine .nsq ?_
      refine .ret ?_
      have hr := Option.some.inj h
      subst hr
      exact rrA (res_tmp h4) rfl
    · refine .skip ?_
      refine .nsq ?_
      refine .seq ?_
      refine run_reg ?_
      refine e_end ?_
      refine g_v0 (.int .i64 (-1)) rfl rfl ?_
      refine g_end ?_
      refine e_end ?_
      refine renew [(0, (.int .i64 x_1)), (1, (.int .i64 y_2)), (4, (.int .i64 (-1))), (6, (.bool r_4))] ⟨h0, h1, rfl, h6⟩ ?_
      rintro s ⟨h0, h1, h4, h6⟩
      refine .nsq ?_
      refine .ret ?_
      have hr := Option.some.inj h
      subst hr
      exact rrA (res_tmp h4) rfl
  · refine .skip ?_
    refine .nsq ?_
    refine .seq ?_
    refine .seq ?_
    refine run_reg ?_
    refine e_end ?_
    refine g_v1 (t := 6) (u := (.bool r_4)) (.bool r_4) h6 rfl rfl ?_
    refine g_end ?_
    refine e_end ?_
    refine renew [(0, (.int .i64 x_1)), (1, (.int .i64 y_2)), (4, (.int .i64 0)), (13, (.bool r_4))] ⟨h0, h1, h4, rfl⟩ ?_
    rintro s ⟨h0, h1, h4, h13⟩
    refine .nsq ?_
    refine run_cond (t := r_4) h13 h (fun h => ?_) (fun h => ?_)
    · refine .seq ?_
      refine run_reg ?_
      refine e_end ?_
      refine g_v0 (.int .i64 1) rfl rfl ?_
      refine g_end ?_
      refine e_end ?_
      refine renew [(0, (.int .i64 x_1)), (1, (.int .i64 y_2)), (4, (.int .i64 1))] ⟨h0, h1, rfl⟩ ?_
      rintro s ⟨h0, h1, h4⟩
      refine .nsq ?_
      refine .ret ?_
      have hr := Option.some.inj h
      subst hr
      exact rrA (res_tmp h4) rfl
    · refine .skip ?_
      refine .nsq ?_
      refine .seq ?_
      refine .seq ?_
      refine run_reg ?_
      refine e_end ?_
      refine g_v1 (t := 0) (u := (.int .i64 x_1)) (.int .i64 x_1) h0 rfl rfl ?_
      refine g_v1 (t := 1) (u := (.int .i64 y_2)) (.int .i64 y_2) h1 rfl rfl ?_
      refine g_v2 (t1 := 14) (t2 := 15) (u1 := (.int .i64 x_1)) (u2 := (.int .i64 y_2)) (.bool (decide (x_1 < y_2))) rfl rfl rfl rfl ?_
      refine g_end ?_
      refine e_end ?_
      refine renew [(0, (.int .i64 x_1)), (1, (.int .i64 y_2)), (4, (.int .i64 0)), (16, (.bool (decide (x_1 < y_2))))] ⟨h0, h1, h4, rfl⟩ ?_
      rintro s ⟨h0, h1, h4, h16⟩
      refine .nsq ?_
      refine run_cond (t := decide (x_1 < y_2)) h16 h (fun h => ?_) (fun h => ?_)
      · refine .seq ?_
        refine run_reg ?_
        refine e_end ?_
        refine g_v0 (.int .i64 (-1)) rfl rfl ?_
        refine g_end ?_
        refine e_end ?_
        refine renew [(0, (.int .i64 x_1)), (1, (.int .i64 y_2)), (4, (.int .i64 (-1)))] ⟨h0, h1, rfl⟩ ?_
        rintro s ⟨h0, h1, h4⟩
        refine .nsq ?_
        refine .ret ?_
        have hr := Option.some.inj h
        subst hr
        exact rrA (res_tmp h4) rfl
      · refine .skip ?_
        refine .nsq ?_
        refine .seq ?_
        refine .seq ?_
        refine run_reg ?_
        refine e_end ?_
        refine g_v1 (t := 0) (u := (.int .i64 x_1)) (.int .i64 x_1) h0 rfl rfl ?_
        refine g_v1 (t := 1) (u := (.int .i64 y_2)) (.int .i64 y_2) h1 rfl rfl ?_
        refine g_v2 (t1 := 17) (t2 := 18) (u1 := (.int .i64 x_1)) (u2 := (.int .i64 y_2)) (.bool (decide (x_1 > y_2))) rfl rfl rfl rfl ?_
        refine g_end ?_
        refine e_end ?_
        refine renew [(4, (.int .i64 0)), (19, (.bool (decide (x_1 > y_2))))] ⟨h4, rfl⟩ ?_
        rintro s ⟨h4, h19⟩
        refine .nsq ?_
        refine run_cond (t := decide (x_1 > y_2)) h19 h (fun h => ?_) (fun h => ?_)
        · refine .seq ?_
          refine run_reg ?_
          refine e_end ?_
          refine g_v0 (.int .i64 1) rfl rfl ?_
          refine g_end ?_
          refine e_end ?_
          refine renew [(4, (.int .i64 1))] rfl ?_
          rintro s h4
          refine .nsq ?_
          refine .ret ?_
          have hr := Option.some.inj h
          subst hr
          exact rrA (res_tmp h4) rfl
        · refine .skip ?_
          refine .nsq ?_
          refine .seq ?_
          refine run_reg ?_
          refine e_end ?_
          refine g_v0 (.int .i64 0) rfl rfl ?_
          refine g_end ?_
          refine e_end ?_
          refine renew [(4, (.int .i64 0))] rfl ?_
          rintro s h4
          refine .nsq ?_
          refine .ret ?_
          have hr := Option.some.inj h
          subst hr
          exact rrA (res_tmp h4) rfl
end
def e131 (F : Nat) : Ent := ⟨131, dn2 (cmp_Compare_int F) (fun (r : Int) => (Enc.enc (r : Int))), 0, false⟩
theorem o131 {D : Den} {σ : Sig} {F : Nat} (hF : Fits2 Try.prog D σ) (H : H131 D σ F) : (e131 F).Ok Try.prog := by
  refine ⟨fun args r h => ?_, ⟨Try.f131, Try.func131, rfl, rfl⟩⟩
  obtain ⟨x0, x1, y, rfl, hy, rfl⟩ := dn2_open h
  exact contract_run hF (by kernel_rfl) Try.func131 rfl c131 (show 2 ≤ Try.f131.ntmps by decide) (t131 H x0 x1 _ ⟨rfl, rfl⟩ hy)
/- slices.Compare[[]int,int] -/
def A100_5 : AC := (AC.cond (O.t 19) (AC.seq (AC.reg [] [(I.mk (some 4) none false (X.v (A.mov (O.k (V.int IntKind.i64 (Int.ofNat 1))))))] []) AC.ret) AC.skip)
def A100_9 : AC := (AC.cond (O.t 28) (AC.seq (AC.reg [] [(I.mk (some 29) none false (X.v (A.mov (O.t 8)))), (I.mk (some 4) none false (X.v (A.mov (O.t 29))))] []) AC.ret) AC.skip)
def A100_8 : AC := (AC.seq (AC.reg [] [(I.mk (some 27) none false (X.v (A.mov (O.t 8)))), (I.mk (some 28) none false (X.v (A.bin BinOp.neq (O.t 27) (O.k (V.int IntKind.i64 (Int.ofNat 0))))))] []) A100_9)
def A100_7 : AC := (AC.seq (AC.reg [] [(I.mk (some 24) none false (X.v (A.mov (O.t 6)))), (I.mk (some 25) none false (X.v (A.mov (O.t 7)))), (I.mk (some 26) none false (X.call (O.k (V.fn 131 [] [])) [(O.t 24), (O.t 25)])), (I.mk (some 8) none false (X.v (A.mov (O.t 26))))] []) A100_8)
def A100_6 : AC := (AC.seq (AC.reg [] [(I.mk (some 20) none false (X.v (A.mov (O.t 1)))), (I.mk (some 21) none false (X.v (A.mov (O.t 5)))), (I.mk (some 22) none false (X.v (A.idx (O.t 20) (O.t 21) 1))), (I.mk (some 23) none false (X.v (A.load Sh.s (O.t 22)))), (I.mk (some 7) none false (X.v (A.mov (O.t 23))))] []) A100_7)
def A100_4 : AC := (AC.seq (AC.seq (AC.reg [] [(I.mk (some 16) none false (X.v (A.mov (O.t 5)))), (I.mk (some 17) none false (X.v (A.mov (O.t 1)))), (I.mk (some 18) none false (X.v (A.len (O.t 17)))), (I.mk (some 19) none false (X.v (A.bin BinOp.geq (O.t 16) (O.t 18))))] []) A100_5) A100_6)
def A100_10 : AC := (AC.reg [] [(I.mk (some 30) none false (X.v (A.bin BinOp.add (O.t 11) (O.k (V.int IntKind.i64 (Int.ofNat 1)))))), (I.mk (some 11) none false (X.v (A.mov (O.t 30))))] [])
def A100_3 : AC := (AC.seq (AC.block 1 (AC.seq (AC.reg [] [(I.mk (some 13) none false (X.v (A.mov (O.t 11)))), (I.mk (some 14) none false (X.v (A.idx (O.t 9) (O.t 11) 1))), (I.mk (some 15) none false (X.v (A.load Sh.s (O.t 14)))), (I.mk (some 5) none false (X.v (A.mov (O.t 13)))), (I.mk (some 6) none false (X.v (A.mov (O.t 15))))] []) A100_4)) A100_10)
def A100_2 : AC := (AC.seq (AC.cond (O.t 12) AC.skip (AC.exit 0)) A100_3)
def A100_1 : AC := (AC.seq (AC.reg [] [(I.mk (some 12) none false (X.v (A.bin BinOp.lss (O.t 11) (O.t 10))))] []) A100_2)
def A100_12 : AC := (AC.cond (O.t 35) (AC.seq (AC.reg [] [(I.mk (some 4) none false (X.v (A.mov (O.k (V.int IntKind.i64 (Int.negSucc 0))))))] []) AC.ret) AC.skip)
def A100_13 : AC := (AC.seq (AC.reg [] [(I.mk (some 4) none false (X.v (A.mov (O.k (V.int IntKind.i64 (Int.ofNat 0))))))] []) AC.ret)
def A100_11 : AC := (AC.seq (AC.seq (AC.reg [] [(I.mk (some 31) none false (X.v (A.mov (O.t 0)))), (I.mk (some 32) none false (X.v (A.len (O.t 31)))), (I.mk (some 33) none false (X.v (A.mov (O.t 1)))), (I.mk (some 34) none false (X.v (A.len (O.t 33)))), (I.mk (some 35) none false (X.v (A.bin BinOp.lss (O.t 32) (O.t 34))))] []) A100_12) A100_13)
def A100_15 : AC := (AC.block 0 (AC.loop A100_1))
def A100_14 : AC := (AC.seq (AC.seq (AC.reg [] [(I.mk (some 9) none false (X.v (A.mov (O.t 0)))), (I.mk (some 10) none false (X.v (A.len (O.t 9)))), (I.mk (some 11) none false (X.v (A.mov (O.k (V.int IntKind.i64 (Int.ofNat 0))))))] []) A100_15) A100_11)
def A100 : AC := (AC.seq (AC.reg [] [(I.mk (some 4) none false (X.v (A.mov (O.k (V.int IntKind.i64 (Int.ofNat 0))))))] []) A100_14)
def an100 : List An := []
theorem c100 : cC Try.prog Try.f100.ntmps an100 (Try.f100.body.getD .skip) = some A100 := by kernel_rfl
structure H100 (D : Den) (σ : Sig) (F : Nat) : Prop where
  c131 : ∀ x0 x1 r, cmp_Compare_int F x0 x1 = some r → D 131 [Enc.enc x0, Enc.enc x1] = some (Enc.enc (r : Int))
  g131 : σ 131 = some (0, false)
abbrev R100 (r : Int) : (Nat → V) → Prop := RR Try.prog [.tmp 4] 0 false (Enc.enc (r : Int))
section
variable {D : Den} {σ : Sig} {F : Nat} {r : Int}
def slices_Compare_l1 (F : Nat) (s1_1 : (List Int)) (s2_2 : (List Int))  : Nat → Int → Option Int
  | 0, _ => none
  | k + 1, t11_6 =>
    bif decide (t11_6 < (s1_1.length : Int)) then
      (idx s1_1 t11_6).bind fun e_10 =>
      bif decide (t11_6 ≥ (s2_2.length : Int)) then
        some 1
      else
        (idx s2_2 t11_6).bind fun e_11 =>
        (cmp_Compare_int F e_10 e_11).bind fun r_12 =>
        bif (r_12 != 0) then
          some r_12
        else
          (slices_Compare_l1 F s1_1 s2_2 k) (w64 (t11_6 + 1))
    else
      bif decide ((s1_1.length : Int) < (s2_2.length : Int)) then
        some (-1)
      else
        some 0
theorem t_f100_l1 (H : H100 D σ F) (s1_1 : (List Int)) (s2_2 : (List Int))  : ∀ (k : Nat) (t11_6 : Int) (s : Nat → V), Facts [(0, (Enc.enc (s1_1 : List Int))), (1, (Enc.enc (s2_2 : List Int))), (4, (.int .i64 0)), (9, (Enc.enc (s1_1 : List Int))), (10, (.int .i64 (s1_1.length : Int))), (11, (.int .i64 t11_6))] s → slices_Compare_l1 F s1_1 s2_2 k t11_6 = some r → Run D σ (R100 r) (.run A100_1 [.lp A100_1, .bk 0, .sq A100_11]) s := by
  intro k
  induction k with
  | zero => intro t11_6 s _ h; exact nomatch (h : (none : Option _) = some r)
  | succ k ih =>
    intro t11_6 s hs h
    rw [slices_Compare_l1] at h
    obtain ⟨h0, h1, h4, h9, h10, h11⟩ := hs
    refine .seq ?_
    refine run_reg ?_
    refine e_end ?_
    refine g_v2 (t1 := 11) (t2 := 10) (u1 := (.int .i64 t11_6)) (u2 := (.int .i64 (s1_1.length : Int))) (.bool (decide (t11_6 < (s1_1.length : Int)))) h11 h10 rfl rfl ?_
    refine g_end ?_
    refine e_end ?_
    refine renew [(0, (Enc.enc (s1_1 : List Int))), (1, (Enc.enc (s2_2 : List Int))), (4, (.int .i64 0)), (9, (Enc.enc (s1_1 : List Int))), (10, (.int .i64 (s1_1.length : Int))), (11, (.int .i64 t11_6)), (12, (.bool (decide (t11_6 < (s1_1.length : Int)))))] ⟨h0, h1, h4, h9, h10, h11, rfl⟩ ?_
    rintro s ⟨h0, h1, h4, h9, h10, h11, h12⟩
    refine .nsq ?_
    refine .seq ?_
    refine run_cond (t := decide (t11_6 < (s1_1.length : Int))) h12 h (fun h => ?_) (fun h => ?_)
    · refine .skip ?_
      refine .nsq ?_
      refine .seq ?_
      refine .block ?_
      refine .seq ?_
      refine run_reg ?_
      refine e_end ?_
      refine g_v1 (t := 11) (u := (.int .i64 t11_6)) (.int .i64 t11_6) h11 rfl rfl ?_
      obtain ⟨e_10, E_e_10, h⟩ := bind_some h
      refine g_v (.ref .sh 0 [] (.int .i64 e_10)) (ev_idx (t := .sh) (lo := 0) (xs := s1_1) h9 h11 E_e_10 rfl rfl) ?_
      refine g_v1 (t := 14) (u := (.ref .sh 0 [] (.int .i64 e_10))) (.int .i64 e_10) rfl rfl rfl ?_
      refine g_v1 (t := 13) (u := (.int .i64 t11_6)) (.int .i64 t11_6) rfl rfl rfl ?_
      refine g_v1 (t := 15) (u := (.int .i64 e_10)) (.int .i64 e_10) rfl rfl rfl ?_
      refine g_end ?_
      refine e_end ?_
      refine renew [(0, (Enc.enc (s1_1 : List Int))), (1, (Enc.enc (s2_2 : List Int))), (4, (.int .i64 0)), (5, (.int .i64 t11_6)), (6, (.int .i64 e_10)), (9, (Enc.enc (s1_1 : List Int))), (10, (.int .i64 (s1_1.length : Int))), (11, (.int .i64 t11_6))] ⟨h0, h1, h4, rfl, rfl, h9, h10, h11⟩ ?_
      rintro s ⟨h0, h1, h4, h5, h6, h9, h10, h11⟩
      refine .nsq ?_
      refine .seq ?_
      refine .seq ?_
      refine run_reg ?_
      refine e_end ?_
      refine g_v1 (t := 5) (u := (.int .i64 t11_6)) (.int .i64 t11_6) h5 rfl rfl ?_
      refine g_v1 (t := 1) (u := (Enc.enc (s2_2 : List Int))) (Enc.enc (s2_2 : List Int)) h1 rfl rfl ?_
      refine g_v (.int .i64 (s2_2.length : Int)) (ev_len (xs := s2_2) rfl) ?_
      refine g_v2 (t1 := 16) (t2 := 18) (u1 := (.int .i64 t11_6)) (u2 := (.int .i64 (s2_2.length : Int))) (.bool (decide (t11_6 ≥ (s2_2.length : Int)))) rfl rfl rfl rfl ?_
      refine g_end ?_
      refine e_end ?_
      refine renew [(0, (Enc.enc (s1_1 : List Int))), (1, (Enc.enc (s2_2 : List Int))), (4, (.int .i64 0)), (5, (.int .i64 t11_6)), (6, (.int .i64 e_10)), (9, (Enc.enc (s1_1 : List Int))), (10, (.int .i64 (s1_1.length : Int))), (11, (.int .i64 t11_6)), (19, (.bool (decide (t11_6 ≥ (s2_2.length : Int)))))] ⟨h0, h1, h4, h5, h6, h9, h10, h11, rfl⟩ ?_
      rintro s ⟨h0, h1, h4, h5, h6, h9, h10, h11, h19⟩
      refine .nsq ?_
      refine run_cond (t := decide (t11_6 ≥ (s2_2.length : Int))) h19 h (fun h => ?_) (fun h => ?_)
      · refine .seq ?_
        refine run_reg ?_
        refine e_end ?_
        refine g_v0 (.int .i64 1) rfl rfl ?_
        refine g_end ?_
        refine e_end ?_
        refine renew [(0, (Enc.enc (s1_1 : List Int))), (1, (Enc.enc (s2_2 : List Int))), (4, (.int .i64 1)), (5, (.int .i64 t11_6)), (6, (.int .i64 e_10)), (9, (Enc.enc (s1_1 : List Int))), (10, (.int .i64 (s1_1.length : Int))), (11, (.int .i64 t11_6))] ⟨h0, h1, rfl, h5, h6, h9, h10, h11⟩ ?_
        rintro s ⟨h0, h1, h4, h5, h6, h9, h10, h11⟩
        refine .nsq ?_
        refine .ret ?_
        have hr := Option.some.inj h
        subst hr
        exact rrA (res_tmp h4) rfl
      · refine .skip ?_
        refine .nsq ?_
        refine .seq ?_
        refine run_reg ?_
        refine e_end ?_
        refine g_v1 (t := 1) (u := (Enc.enc (s2_2 : List Int))) (Enc.enc (s2_2 : List Int)) h1 rfl rfl ?_
        refine g_v1 (t := 5) (u := (.int .i64 t11_6)) (.int .i64 t11_6) h5 rfl rfl ?_
        obtain ⟨e_11, E_e_11, h⟩ := bind_some h
        refine g_v (.ref .sh 0 [] (.int .i64 e_11)) (ev_idx (t := .sh) (lo := 0) (xs := s2_2) rfl rfl E_e_11 rfl rfl) ?_
        refine g_v1 (t := 22) (u := (.ref .sh 0 [] (.int .i64 e_11))) (.int .i64 e_11) rfl rfl rfl ?_
        refine g_v1 (t := 23) (u := (.int .i64 e_11)) (.int .i64 e_11) rfl rfl rfl ?_
        refine g_end ?_
        refine e_end ?_
        refine renew [(0, (Enc.enc (s1_1 : List Int))), (1, (Enc.enc (s2_2 : List Int))), (4, (.int .i64 0)), (6, (.int .i64 e_10)), (7, (.int .i64 e_11)), (9, (Enc.enc (s1_1 : List Int))), (10, (.int .i64 (s1_1.length : Int))), (11, (.int .i64 t11_6))] ⟨h0, h1, h4, h6, rfl, h9, h10, h11⟩ ?_
        rintro s ⟨h0, h1, h4, h6, h7, h9, h10, h11⟩
        refine .nsq ?_
        refine .seq ?_
        refine run_reg ?_
        refine e_end ?_
        refine g_v1 (t := 6) (u := (.int .i64 e_10)) (.int .i64 e_10) h6 rfl rfl ?_
        refine g_v1 (t := 7) (u := (.int .i64 e_11)) (.int .i64 e_11) h7 rfl rfl ?_
        obtain ⟨r_12, E_r_12, h⟩ := bind_some h
        refine g_call (m := 0) (al := false) (r := (Enc.enc (r_12 : Int))) [Enc.enc (e_10 : Int), Enc.enc (e_11 : Int)] (ta_cons (v := (.int .i64 e_10)) rfl rfl rfl (ta_cons (v := (.int .i64 e_11)) rfl rfl rfl ta_nil)) (H.c131 _ _ _ E_r_12) H.g131 rfl rfl rfl rfl ?_
        refine g_v1 (t := 26) (u := (.int .i64 r_12)) (.int .i64 r_12) rfl rfl rfl ?_
        refine g_end ?_
        refine e_end ?_
        refine renew [(0, (Enc.enc (s1_1 : List Int))), (1, (Enc.enc (s2_2 : List Int))), (4, (.int .i64 0)), (8, (.int .i64 r_12)), (9, (Enc.enc (s1_1 : List Int))), (10, (.int .i64 (s1_1.length : Int))), (11, (.int .i64 t11_6))] ⟨h0, h1, h4, rfl, h9, h10, h11⟩ ?_
        rintro s ⟨h0, h1, h4, h8, h9, h10, h11⟩
        refine .nsq ?_
        refine .seq ?_
        refine run_reg ?_
        refine e_end ?_
        refine g_v1 (t := 8) (u := (.int .i64 r_12)) (.int .i64 r_12) h8 rfl rfl ?_
        refine g_v1 (t := 27) (u := (.int .i64 r_12)) (.bool (r_12 != 0)) rfl rfl rfl ?_
        refine g_end ?_
        refine e_end ?_
        refine renew [(0, (Enc.enc (s1_1 : List Int))), (1, (Enc.enc (s2_2 : List Int))), (4, (.int .i64 0)), (8, (.int .i64 r_12)), (9, (Enc.enc (s1_1 : List Int))), (10, (.int .i64 (s1_1.length : Int))), (11, (.int .i64 t11_6)), (28, (.bool (r_12 != 0)))] ⟨h0, h1, h4, h8, h9, h10, h11, rfl⟩ ?_
        rintro s ⟨h0, h1, h4, h8, h9, h10, h11, h28⟩
        refine .nsq ?_
        refine run_cond (t := (r_12 != 0)) h28 h (fun h => ?_) (fun h => ?_)
        · refine .seq ?_
          refine run_reg ?_
          refine e_end ?_
          refine g_v1 (t := 8) (u := (.int .i64 r_12)) (.int .i64 r_12) h8 rfl rfl ?_
          refine g_v1 (t := 29) (u := (.int .i64 r_12)) (.int .i64 r_12) rfl rfl rfl ?_
          refine g_end ?_
          refine e_end ?_
          refine renew [(0, (Enc.enc (s1_1 : List Int))), (1, (Enc.enc (s2_2 : List Int))), (4, (.int .i64 r_12)), (9, (Enc.enc (s1_1 : List Int))), (10, (.int .i64 (s1_1.length : Int))), (11, (.int .i64 t11_6))] ⟨h0, h1, rfl, h9, h10, h11⟩ ?_
          rintro s ⟨h0, h1, h4, h9, h10, h11⟩
          refine .nsq ?_
          refine .ret ?_
          have hr := Option.some.inj h
          subst hr
          exact rrA (res_tmp h4) rfl
        · refine .skip ?_
          refine .nbk ?_
          refine .nsq ?_
          refine run_reg ?_
          refine e_end ?_
          refine g_v1 (t := 11) (u := (.int .i64 t11_6)) (.int .i64 (w64 (t11_6 + 1))) h11 rfl rfl ?_
          refine g_v1 (t := 30) (u := (.int .i64 (w64 (t11_6 + 1)))) (.int .i64 (w64 (t11_6 + 1))) rfl rfl rfl ?_
          refine g_end ?_
          refine e_end ?_
          refine renew [(0, (Enc.enc (s1_1 : List Int))), (1, (Enc.enc (s2_2 : List Int))), (4, (.int .i64 0)), (9, (Enc.enc (s1_1 : List Int))), (10, (.int .i64 (s1_1.length : Int))), (11, (.int .i64 (w64 (t11_6 + 1))))] ⟨h0, h1, h4, h9, h10, rfl⟩ ?_
          rintro s ⟨h0, h1, h4, h9, h10, h11⟩
          refine .nlp ?_
          exact ih (w64 (t11_6 + 1)) _ ⟨h0, h1, h4, h9, h10, h11⟩ h
    · refine .exit ?_
      refine .esq ?_
      refine .elp ?_
      refine .ebk ?_
      refine .nsq ?_
      refine .seq ?_
      refine .seq ?_
      refine run_reg ?_
      refine e_end ?_
      refine g_v1 (t := 0) (u := (Enc.enc (s1_1 : List Int))) (Enc.enc (s1_1 : List Int)) h0 rfl rfl ?_
      refine g_v (.int .i64 (s1_1.length : Int)) (ev_len (xs := s1_1) rfl) ?_
      refine g_v1 (t := 1) (u := (Enc.enc (s2_2 : List Int))) (Enc.enc (s2_2 : List Int)) h1 rfl rfl ?_
      refine g_v (.int .i64 (s2_2.length : Int)) (ev_len (xs := s2_2) rfl) ?_
      refine g_v2 (t1 := 32) (t2 := 34) (u1 := (.int .i64 (s1_1.length : Int))) (u2 := (.int .i64 (s2_2.length : Int))) (.bool (decide ((s1_1.length : Int) < (s2_2.length : Int)))) rfl rfl rfl rfl ?_
      refine g_end ?_
      refine e_end ?_
      refine renew [(4, (.int .i64 0)), (35, (.bool (decide ((s1_1.length : Int) < (s2_2.length : Int)))))] ⟨h4, rfl⟩ ?_
      rintro s ⟨h4, h35⟩
      refine .nsq ?_
      refine run_cond (t := decide ((s1_1.length : Int) < (s2_2.length : Int))) h35 h (fun h => ?_) (fun h => ?_)
      · refine .seq ?_
        refine run_reg ?_
        refine e_end ?_
        refine g_v0 (.int .i64 (-1)) rfl rfl ?_
        refine g_end ?_
        refine e_end ?_
        refine renew [(4, (.int .i64 (-1)))] rfl ?_
        rintro s h4
        refine .nsq ?_
        refine .ret ?_
        have hr := Option.some.inj h
        subst hr
        exact rrA (res_tmp h4) rfl
      · refine .skip ?_
        refine .nsq ?_
        refine .seq ?_
        refine run_reg ?_
        refine e_end ?_
        refine g_v0 (.int .i64 0) rfl rfl ?_
        refine g_end ?_
        refine e_end ?_
        refine renew [(4, (.int .i64 0))] rfl ?_
        rintro s h4
        refine .nsq ?_
        refine .ret ?_
        have hr := Option.some.inj h
        subst hr
        exact rrA (res_tmp h4) rfl
def slices_Compare (F : Nat) (s1_1 : (List Int)) (s2_2 : (List Int)) : Option Int :=
  slices_Compare_l1 F s1_1 s2_2 F 0
theorem t100 (H : H100 D σ F) (s1_1 : (List Int)) (s2_2 : (List Int)) (s : Nat → V) (hs : Facts [(0, (Enc.enc (s1_1 : List Int))), (1, (Enc.enc (s2_2 : List Int)))] s) (h : slices_Compare F s1_1 s2_2 = some r) : Run D σ (R100 r) (.run A100 []) s := by
  unfold slices_Compare at h
  obtain ⟨h0, h1⟩ := hs
  refine .seq ?_
  refine run_reg ?_
  refine e_end ?_
  refine g_v0 (.int .i64 0) rfl rfl ?_
  refine g_end ?_
  refine e_end ?_
  refine renew [(0, (Enc.enc (s1_1 : List Int))), (1, (Enc.enc (s2_2 : List Int))), (4, (.int .i64 0))] ⟨h0, h1, rfl⟩ ?_
  rintro s ⟨h0, h1, h4⟩
  refine .nsq ?_
  refine .seq ?_
  refine .seq ?_
  refine run_reg ?_
  refine e_end ?_
  refine g_v1 (t := 0) (u := (Enc.enc (s1_1 : List Int))) (Enc.enc (s1_1 : List Int)) h0 rfl rfl ?_
  refine g_v (.int .i64 (s1_1.length : Int)) (ev_len (xs := s1_1) rfl) ?_
  refine g_v0 (.int .i64 0) rfl rfl ?_
  refine g_end ?_
  refine e_end ?_
  refine renew [(0, (Enc.enc (s1_1 : List Int))), (1, (Enc.enc (s2_2 : List Int))), (4, (.int .i64 0)), (9, (Enc.enc (s1_1 : List Int))), (10, (.int .i64 (s1_1.length : Int))), (11, (.int .i64 0))] ⟨h0, h1, h4, rfl, rfl, rfl⟩ ?_
  rintro s ⟨h0, h1, h4, h9, h10, h11⟩
  refine .nsq ?_
  refine .block ?_
  refine .loop ?_
  exact t_f100_l1 H s1_1 s2_2 F 0 _ ⟨h0, h1, h4, h9, h10, h11⟩ h
end
def e100 (F : Nat) : Ent := ⟨100, dn2 (slices_Compare F) (fun (r : Int) => (Enc.enc (r : Int))), 0, false⟩
theorem o100 {D : Den} {σ : Sig} {F : Nat} (hF : Fits2 Try.prog D σ) (H : H100 D σ F) : (e100 F).Ok Try.prog := by
  refine ⟨fun args r h => ?_, ⟨Try.f100, Try.func100, rfl, rfl⟩⟩
  obtain ⟨x0, x1, y, rfl, hy, rfl⟩ := dn2_open h
  exact contract_run hF (by kernel_rfl) Try.func100 rfl c100 (show 2 ≤ Try.f100.ntmps by decide) (t100 H x0 x1 _ ⟨rfl, rfl⟩ hy)
/- loop.example/g01109/impl.IsGraph -/
def A50_5 : AC := (AC.cond (O.t 48) (AC.seq (AC.reg [] [(I.mk (some 2) none false (X.v (A.mov (O.k (V.bool false)))))] []) AC.ret) AC.skip)
def A50_4 : AC := (AC.seq (AC.reg [] [(I.mk (some 17) none false (X.v (A.idxA (O.t 4) (O.k (V.int IntKind.i64 (Int.ofNat 0))) 2 1))), (I.mk (some 18) none false (X.v (A.load Sh.s (O.t 17)))), (I.mk (some 19) none false (X.v (A.bin BinOp.lss (O.t 18) (O.k (V.int IntKind.i64 (Int.ofNat 0)))))), (I.mk (some 20) none false (X.v (A.mov (O.t 19)))), (I.mk (some 21) (some (20, false)) false (X.v (A.idxA (O.t 4) (O.k (V.int IntKind.i64 (Int.ofNat 0))) 2 1))), (I.mk (some 22) (some (20, false)) false (X.v (A.load Sh.s (O.t 21)))), (I.mk (some 23) (some (20, false)) false (X.v (A.idxA (O.t 4) (O.k (V.int IntKind.i64 (Int.ofNat 1))) 2 1))), (I.mk (some 24) (some (20, false)) false (X.v (A.load Sh.s (O.t 23)))), (I.mk (some 25) (some (20, false)) false (X.v (A.bin BinOp.geq (O.t 22) (O.t 24)))), (I.mk (some 26) none false (X.v (A.pick (O.t 20) (O.k (V.bool true)) (O.t 25)))), (I.mk (some 27) none false (X.v (A.mov (O.t 26)))), (I.mk (some 28) (some (27, false)) false (X.v (A.idxA (O.t 4) (O.k (V.int IntKind.i64 (Int.ofNat 1))) 2 1))), (I.mk (some 29) (some (27, false)) false (X.v (A.load Sh.s (O.t 28)))), (I.mk (some 30) (some (27, false)) false (X.v (A.fld (O.t 1) 0 0))), (I.mk (some 31) (some (27, false)) false (X.v (A.load Sh.s (O.t 30)))), (I.mk (some 32) (some (27, false)) false (X.v (A.bin BinOp.geq (O.t 29) (O.t 31)))), (I.mk (some 33) none false (X.v (A.pick (O.t 27) (O.k (V.bool true)) (O.t 32)))), (I.mk (some 34) none false (X.v (A.mov (O.t 33)))), (I.mk (some 35) (some (34, false)) false (X.v (A.mov (O.t 3)))), (I.mk (some 36) (some (34, false)) false (X.v (A.bin BinOp.gtr (O.t 35) (O.k (V.int IntKind.i64 (Int.ofNat 0)))))), (I.mk (some 37) (some (34, false)) false (X.v (A.mov (O.t 36)))), (I.mk (some 38) (some (37, true)) false (X.v (A.fld (O.t 1) 1 1))), (I.mk (some 39) (some (37, true)) false (X.v (A.load Sh.p (O.t 38)))), (I.mk (some 40) (some (37, true)) false (X.v (A.mov (O.t 3)))), (I.mk (some 41) (some (37, true)) false (X.v (A.bin BinOp.sub (O.t 40) (O.k (V.int IntKind.i64 (Int.ofNat 1)))))), (I.mk (some 42) (some (37, true)) false (X.v (A.idx (O.t 39) (O.t 41) 2))), (I.mk (some 43) (some (37, true)) false (X.v (A.sliceA (O.t 42) 2 Sh.s))), (I.mk (some 44) (some (37, true)) false (X.v (A.sliceA (O.t 4) 2 Sh.s))), (I.mk (some 45) (some (37, true)) false (X.call (O.k (V.fn 100 [] [])) [(O.t 43), (O.t 44)])), (I.mk (some 46) (some (37, true)) false (X.v (A.bin BinOp.geq (O.t 45) (O.k (V.int IntKind.i64 (Int.ofNat 0)))))), (I.mk (some 47) (some (34, false)) false (X.v (A.pick (O.t 37) (O.t 46) (O.k (V.bool false))))), (I.mk (some 48) none false (X.v (A.pick (O.t 34) (O.k (V.bool true)) (O.t 47))))] []) A50_5)
def A50_6 : AC := (AC.reg [] [(I.mk (some 49) none false (X.v (A.bin BinOp.add (O.t 12) (O.k (V.int IntKind.i64 (Int.ofNat 1)))))), (I.mk (some 12) none false (X.v (A.mov (O.t 49))))] [])
def A50_3 : AC := (AC.seq (AC.block 1 (AC.seq (AC.reg [.clr [4]] [(I.mk (some 14) none false (X.v (A.mov (O.t 12)))), (I.mk (some 15) none false (X.v (A.idx (O.t 10) (O.t 12) 2))), (I.mk (some 16) none false (X.v (A.load (Sh.ag [Sh.s, Sh.s]) (O.t 15)))), (I.mk (some 4) none false (X.alloc (V.agg [(V.int IntKind.i64 (Int.ofNat 0)), (V.int IntKind.i64 (Int.ofNat 0))]))), (I.mk (some 3) none false (X.v (A.mov (O.t 14)))), (I.mk none none false (X.store (Sh.ag [Sh.s, Sh.s]) (O.t 4) (O.t 16)))] []) A50_4)) A50_6)
def A50_2 : AC := (AC.seq (AC.cond (O.t 13) AC.skip (AC.exit 0)) A50_3)
def A50_1 : AC := (AC.seq (AC.reg [] [(I.mk (some 13) none false (X.v (A.bin BinOp.lss (O.t 12) (O.t 11))))] []) A50_2)
def A50_7 : AC := (AC.seq (AC.reg [] [(I.mk (some 2) none false (X.v (A.mov (O.k (V.bool true)))))] []) AC.ret)
def A50_9 : AC := (AC.cond (O.t 8) (AC.seq (AC.reg [] [(I.mk (some 2) none false (X.v (A.mov (O.k (V.bool false)))))] []) AC.ret) AC.skip)
def A50_11 : AC := (AC.block 0 (AC.loop A50_1))
def A50_10 : AC := (AC.seq (AC.seq (AC.reg [] [(I.mk (some 9) none false (X.v (A.fld (O.t 1) 1 1))), (I.mk (some 10) none false (X.v (A.load Sh.p (O.t 9)))), (I.mk (some 11) none false (X.v (A.len (O.t 10)))), (I.mk (some 12) none false (X.v (A.mov (O.k (V.int IntKind.i64 (Int.ofNat 0))))))] []) A50_11) A50_7)
def A50_8 : AC := (AC.seq (AC.seq (AC.reg [] [(I.mk (some 5) none false (X.v (A.fld (O.t 1) 0 0))), (I.mk (some 6) none false (X.v (A.load Sh.s (O.t 5)))), (I.mk (some 7) none false (X.call (O.k (V.fn 66 [] [])) [(O.t 6), (O.k (V.int IntKind.i64 (Int.ofNat 0))), (O.k (V.int IntKind.i64 (Int.ofNat 8)))])), (I.mk (some 8) none false (X.v (A.un UnOp.not (O.t 7))))] []) A50_9) A50_10)
def A50 : AC := (AC.seq (AC.reg [.clr [1]] [(I.mk (some 1) none false (X.box (O.t 0))), (I.mk (some 2) none false (X.v (A.mov (O.k (V.bool false)))))] []) A50_8)
def an50 : List An := [{ id := 0, pre := [.clr [1]], ep := [], lin := [], sp := [] }, { id := 5, pre := [.clr [4]], ep := [], lin := [], sp := [] }]
theorem c50 : cC Try.prog Try.f50.ntmps an50 (Try.f50.body.getD .skip) = some A50 := by kernel_rfl
structure H50 (D : Den) (σ : Sig) (F : Nat) : Prop where
  c66 : ∀ x0 x1 x2 r, i_within F x0 x1 x2 = some r → D 66 [Enc.enc x0, Enc.enc x1, Enc.enc x2] = some (Enc.enc (r : Bool))
  g66 : σ 66 = some (0, false)
  c100 : ∀ x0 x1 r, slices_Compare F x0 x1 = some r → D 100 [Enc.enc x0, Enc.enc x1] = some (Enc.enc (r : Int))
  g100 : σ 100 = some (0, false)
abbrev R50 (r : Bool) : (Nat → V) → Prop := RR Try.prog [.tmp 2] 0 false (Enc.enc (r : Bool))
section
variable {D : Den} {σ : Sig} {F : Nat} {r : Bool}
def i_IsGraph_j1 (F : Nat) (g_1 : (Int × (List (Int × Int)))) (t12_9 : Int) (c1 : Int → Option Bool) (t48_19 : Bool) : Option Bool :=
  bif t48_19 then
    some false
  else
    c1 (w64 (t12_9 + 1))
theorem t_f50_j1 (H : H50 D σ F) (g_1 : (Int × (List (Int × Int)))) (t12_9 : Int) (c1 : Int → Option Bool) (Hc1 : ∀ (t12_9 : Int) (s : Nat → V), Facts [(1, (.ref (.bx 1) 0 [] (.agg [(.int .i64 g_1.1), (Enc.enc (g_1.2 : List (Int × Int)))]))), (2, (.bool false)), (10, (Enc.enc (g_1.2 : List (Int × Int)))), (11, (.int .i64 (g_1.2.length : Int))), (12, (.int .i64 t12_9))] s → c1 t12_9 = some r → Run D σ (R50 r) (.run A50_1 [.lp A50_1, .bk 0, .sq A50_7]) s) (t48_19 : Bool) (s : Nat → V) (hs : Facts [(1, (.ref (.bx 1) 0 [] (.agg [(.int .i64 g_1.1), (Enc.enc (g_1.2 : List (Int × Int)))]))), (2, (.bool false)), (10, (Enc.enc (g_1.2 : List (Int × Int)))), (11, (.int .i64 (g_1.2.length : Int))), (12, (.int .i64 t12_9)), (48, (.bool t48_19))] s) (h : i_IsGraph_j1 F g_1 t12_9 c1 t48_19 = some r) : Run D σ (R50 r) (.nrm [.sq A50_5, .bk 1, .sq A50_6, .lp A50_1, .bk 0, .sq A50_7]) s := by
  unfold i_IsGraph_j1 at h
  obtain ⟨h1, h2, h10, h11, h12, h48⟩ := hs
  refine .nsq ?_
  refine run_cond (t := t48_19) h48 h (fun h => ?_) (fun h => ?_)
  · refine .seq ?_
    refine run_reg ?_
    refine e_end ?_
    refine g_v0 (.bool false) rfl rfl ?_
    refine g_end ?_
    refine e_end ?_
    refine renew [(1, (.ref (.bx 1) 0 [] (.agg [(.int .i64 g_1.1), (Enc.enc (g_1.2 : List (Int × Int)))]))), (2, (.bool false)), (10, (Enc.enc (g_1.2 : List (Int × Int)))), (11, (.int .i64 (g_1.2.length : Int))), (12, (.int .i64 t12_9))] ⟨h1, rfl, h10, h11, h12⟩ ?_
    rintro s ⟨h1, h2, h10, h11, h12⟩
    refine .nsq ?_
    refine .ret ?_
    have hr := Option.some.inj h
    subst hr
    exact rrA (res_tmp h2) rfl
  · refine .skip ?_
    refine .nbk ?_
    refine .nsq ?_
    refine run_reg ?_
    refine e_end ?_
    refine g_v1 (t := 12) (u := (.int .i64 t12_9)) (.int .i64 (w64 (t12_9 + 1))) h12 rfl rfl ?_
    refine g_v1 (t := 49) (u := (.int .i64 (w64 (t12_9 + 1)))) (.int .i64 (w64 (t12_9 + 1))) rfl rfl rfl ?_
    refine g_end ?_
    refine e_end ?_
    refine renew [(1, (.ref (.bx 1) 0 [] (.agg [(.int .i64 g_1.1), (Enc.enc (g_1.2 : List (Int × Int)))]))), (2, (.bool false)), (10, (Enc.enc (g_1.2 : List (Int × Int)))), (11, (.int .i64 (g_1.2.length : Int))), (12, (.int .i64 (w64 (t12_9 + 1))))] ⟨h1, h2, h10, h11, rfl⟩ ?_
    rintro s ⟨h1, h2, h10, h11, h12⟩
    refine .nlp ?_
    exact Hc1 (w64 (t12_9 + 1)) _ ⟨h1, h2, h10, h11, h12⟩ h
def i_IsGraph_l1 (F : Nat) (g_1 : (Int × (List (Int × Int))))  : Nat → Int → Option Bool
  | 0, _ => none
  | k + 1, t12_9 =>
    bif decide (t12_9 < (g_1.2.length : Int)) then
      (idx g_1.2 t12_9).bind fun e_16 =>
      bif decide (e_16.1 < 0) then
        i_IsGraph_j1 F g_1 t12_9 (i_IsGraph_l1 F g_1 k) true
      else
        bif decide (e_16.1 ≥ e_16.2) then
          i_IsGraph_j1 F g_1 t12_9 (i_IsGraph_l1 F g_1 k) true
        else
          bif decide (e_16.2 ≥ g_1.1) then
            i_IsGraph_j1 F g_1 t12_9 (i_IsGraph_l1 F g_1 k) true
          else
            bif decide (t12_9 > 0) then
              (idx g_1.2 (w64 (t12_9 - 1))).bind fun e_20 =>
              (slices_Compare F [e_20.1, e_20.2] [e_16.1, e_16.2]).bind fun r_21 =>
              i_IsGraph_j1 F g_1 t12_9 (i_IsGraph_l1 F g_1 k) (decide (r_21 ≥ 0))
            else
              i_IsGraph_j1 F g_1 t12_9 (i_IsGraph_l1 F g_1 k) false
    else
      some true
theorem t_f50_l1 (H : H50 D σ F) (g_1 : (Int × (List (Int × Int))))  : ∀ (k : Nat) (t12_9 : Int) (s : Nat → V), Facts [(1, (.ref (.bx 1) 0 [] (.agg [(.int .i64 g_1.1), (Enc.enc (g_1.2 : List (Int × Int)))]))), (2, (.bool false)), (10, (Enc.enc (g_1.2 : List (Int × Int)))), (11, (.int .i64 (g_1.2.length : Int))), (12, (.int .i64 t12_9))] s → i_IsGraph_l1 F g_1 k t12_9 = some r → Run D σ (R50 r) (.run A50_1 [.lp A50_1, .bk 0, .sq A50_7]) s := by
  intro k
  induction k with
  | zero => intro t12_9 s _ h; exact nomatch (h : (none : Option _) = some r)
  | succ k ih =>
    intro t12_9 s hs h
    rw [i_IsGraph_l1] at h
    obtain ⟨h1, h2, h10, h11, h12⟩ := hs
    refine .seq ?_
    refine run_reg ?_
    refine e_end ?_
    refine g_v2 (t1 := 12) (t2 := 11) (u1 := (.int .i64 t12_9)) (u2 := (.int .i64 (g_1.2.length : Int))) (.bool (decide (t12_9 < (g_1.2.length : Int)))) h12 h11 rfl rfl ?_
    refine g_end ?_
    refine e_end ?_
    refine renew [(1, (.ref (.bx 1) 0 [] (.agg [(.int .i64 g_1.1), (Enc.enc (g_1.2 : List (Int × Int)))]))), (2, (.bool false)), (10, (Enc.enc (g_1.2 : List (Int × Int)))), (11, (.int .i64 (g_1.2.length : Int))), (12, (.int .i64 t12_9)), (13, (.bool (decide (t12_9 < (g_1.2.length : Int)))))] ⟨h1, h2, h10, h11, h12, rfl⟩ ?_
    rintro s ⟨h1, h2, h10, h11, h12, h13⟩
    refine .nsq ?_
    refine .seq ?_
    refine run_cond (t := decide (t12_9 < (g_1.2.length : Int))) h13 h (fun h => ?_) (fun h => ?_)
    · refine .skip ?_
      refine .nsq ?_
      refine .seq ?_
      refine .block ?_
      refine .seq ?_
      refine run_reg ?_
      refine e_clr ?_
      refine e_end ?_
      refine g_v1 (t := 12) (u := (.int .i64 t12_9)) (.int .i64 t12_9) (keep_clear (s := s) (pk := [4]) h12 rfl rfl) rfl rfl ?_
      obtain ⟨e_16, E_e_16, h⟩ := bind_some h
      refine g_v (.ref .sh 0 [] (.agg [(.int .i64 e_16.1), (.int .i64 e_16.2)])) (ev_idx (t := .sh) (lo := 0) (xs := g_1.2) (keep_clear (s := s) (pk := [4]) h10 rfl (Enc.map_enc _ (g_1.2 : List (Int × Int)))) (keep_clear (s := s) (pk := [4]) h12 rfl rfl) E_e_16 rfl rfl) ?_
      refine g_v1 (t := 15) (u := (.ref .sh 0 [] (.agg [(.int .i64 e_16.1), (.int .i64 e_16.2)]))) (.agg [(.int .i64 e_16.1), (.int .i64 e_16.2)]) rfl rfl rfl ?_
      refine g_alloc (gone_clear (s := s) (pk := [4]) (t := 4) rfl) ?_
      refine g_v1 (t := 14) (u := (.int .i64 t12_9)) (.int .i64 t12_9) rfl rfl rfl ?_
      refine g_store (.agg [(.int .i64 e_16.1), (.int .i64 e_16.2)]) (rd_of rfl rfl) (rd_of rfl rfl) (by refine ⟨by decide, by decide, rfl, rfl, rfl, ?_⟩; first | rfl | simp [V.toks, V.tokss, Enc.toks_enc]) ?_
      refine g_end ?_
      refine e_end ?_
      refine renew [(1, (.ref (.bx 1) 0 [] (.agg [(.int .i64 g_1.1), (Enc.enc (g_1.2 : List (Int × Int)))]))), (2, (.bool false)), (3, (.int .i64 t12_9)), (4, (.ref (.bx 4) 0 [] (.agg [(.int .i64 e_16.1), (.int .i64 e_16.2)]))), (10, (Enc.enc (g_1.2 : List (Int × Int)))), (11, (.int .i64 (g_1.2.length : Int))), (12, (.int .i64 t12_9))] ⟨(keep_mut (keep_clear (s := s) (pk := [4]) h1 rfl (map_bx rfl (map_agg (maps_cons rfl (maps_cons (Enc.map_enc _ (g_1.2 : List (Int × Int))) maps_nil))))) (mut_ref_ne rfl rfl (mut_agg (muts_cons rfl (muts_cons (Enc.mut_enc _ _ _ _ (g_1.2 : List (Int × Int))) rfl))))), (keep_mut (keep_clear (s := s) (pk := [4]) h2 rfl rfl) rfl), (keep_mut rfl rfl), (keep_mut rfl rfl), (keep_mut (keep_clear (s := s) (pk := [4]) h10 rfl (Enc.map_enc _ (g_1.2 : List (Int × Int)))) (Enc.mut_enc _ _ _ _ (g_1.2 : List (Int × Int)))), (keep_mut (keep_clear (s := s) (pk := [4]) h11 rfl rfl) rfl), (keep_mut (keep_clear (s := s) (pk := [4]) h12 rfl rfl) rfl)⟩ ?_
      rintro s ⟨h1, h2, h3, h4, h10, h11, h12⟩
      refine .nsq ?_
      refine .seq ?_
      refine run_reg ?_
      refine e_end ?_
      refine g_v1 (t := 4) (u := (.ref (.bx 4) 0 [] (.agg [(.int .i64 e_16.1), (.int .i64 e_16.2)]))) (.ref (.bx 4) 0 [0] (.int .i64 e_16.1)) h4 rfl rfl ?_
      refine g_v1 (t := 17) (u := (.ref (.bx 4) 0 [0] (.int .i64 e_16.1))) (.int .i64 e_16.1) rfl rfl rfl ?_
      refine g_v1 (t := 18) (u := (.int .i64 e_16.1)) (.bool (decide (e_16.1 < 0))) rfl rfl rfl ?_
      refine g_v1 (t := 19) (u := (.bool (decide (e_16.1 < 0)))) (.bool (decide (e_16.1 < 0))) rfl rfl rfl ?_
      refine split_on (c := decide (e_16.1 < 0)) h (fun hg4 h => ?_) (fun hg4 h => ?_)
      · refine g_no (Eq.trans (b := .bool (decide (e_16.1 < 0))) rfl (congrArg V.bool hg4)) ?_
        refine g_no (Eq.trans (b := .bool (decide (e_16.1 < 0))) rfl (congrArg V.bool hg4)) ?_
        refine g_no (Eq.trans (b := .bool (decide (e_16.1 < 0))) rfl (congrArg V.bool hg4)) ?_
        refine g_no (Eq.trans (b := .bool (decide (e_16.1 < 0))) rfl (congrArg V.bool hg4)) ?_
        refine g_no (Eq.trans (b := .bool (decide (e_16.1 < 0))) rfl (congrArg V.bool hg4)) ?_
        refine g_v2 (t1 := 20) (t2 := 25) (u1 := (.bool true)) (u2 := (.tup [])) (.bool true) (Eq.trans (b := .bool (decide (e_16.1 < 0))) rfl (congrArg V.bool hg4)) rfl rfl rfl ?_
        refine g_v1 (t := 26) (u := (.bool true)) (.bool true) rfl rfl rfl ?_
        refine g_no rfl ?_
        refine g_no rfl ?_
        refine g_no rfl ?_
        refine g_no rfl ?_
        refine g_no rfl ?_
        refine g_v2 (t1 := 27) (t2 := 32) (u1 := (.bool true)) (u2 := (.tup [])) (.bool true) rfl rfl rfl rfl ?_
        refine g_v1 (t := 33) (u := (.bool true)) (.bool true) rfl rfl rfl ?_
        refine g_no rfl ?_
        refine g_no rfl ?_
        refine g_no rfl ?_
        refine g_skip rfl ?_
        refine g_skip rfl ?_
        refine g_skip rfl ?_
        refine g_skip rfl ?_
        refine g_skip rfl ?_
        refine g_skip rfl ?_
        refine g_skip rfl ?_
        refine g_skip rfl ?_
        refine g_skip rfl ?_
        refine g_no rfl ?_
        refine g_v2 (t1 := 34) (t2 := 47) (u1 := (.bool true)) (u2 := (.tup [])) (.bool true) rfl rfl rfl rfl ?_
        refine g_end ?_
        refine e_end ?_
        refine renew [(1, (.ref (.bx 1) 0 [] (.agg [(.int .i64 g_1.1), (Enc.enc (g_1.2 : List (Int × Int)))]))), (2, (.bool false)), (10, (Enc.enc (g_1.2 : List (Int × Int)))), (11, (.int .i64 (g_1.2.length : Int))), (12, (.int .i64 t12_9)), (48, (.bool true))] ⟨h1, h2, h10, h11, h12, rfl⟩ ?_
        rintro s ⟨h1, h2, h10, h11, h12, h48⟩
        exact t_f50_j1 H g_1 t12_9 (i_IsGraph_l1 F g_1 k) ih true _ ⟨h1, h2, h10, h11, h12, h48⟩ h
      · refine g_yes (Eq.trans (b := .bool (decide (e_16.1 < 0))) rfl (congrArg V.bool hg4)) (g_v1 (t := 4) (u := (.ref (.bx 4) 0 [] (.agg [(.int .i64 e_16.1), (.int .i64 e_16.2)]))) (.ref (.bx 4) 0 [0] (.int .i64 e_16.1)) h4 rfl rfl ?_)
        refine g_yes (Eq.trans (b := .bool (decide (e_16.1 < 0))) rfl (congrArg V.bool hg4)) (g_v1 (t := 21) (u := (.ref (.bx 4) 0 [0] (.int .i64 e_16.1))) (.int .i64 e_16.1) rfl rfl rfl ?_)
        refine g_yes (Eq.trans (b := .bool (decide (e_16.1 < 0))) rfl (congrArg V.bool hg4)) (g_v1 (t := 4) (u := (.ref (.bx 4) 0 [] (.agg [(.int .i64 e_16.1), (.int .i64 e_16.2)]))) (.ref (.bx 4) 0 [1] (.int .i64 e_16.2)) h4 rfl rfl ?_)
        refine g_yes (Eq.trans (b := .bool (decide (e_16.1 < 0))) rfl (congrArg V.bool hg4)) (g_v1 (t := 23) (u := (.ref (.bx 4) 0 [1] (.int .i64 e_16.2))) (.int .i64 e_16.2) rfl rfl rfl ?_)
        refine g_yes (Eq.trans (b := .bool (decide (e_16.1 < 0))) rfl (congrArg V.bool hg4)) (g_v2 (t1 := 22) (t2 := 24) (u1 := (.int .i64 e_16.1)) (u2 := (.int .i64 e_16.2)) (.bool (decide (e_16.1 ≥ e_16.2))) rfl rfl rfl rfl ?_)
        refine g_v2 (t1 := 20) (t2 := 25) (u1 := (.bool false)) (u2 := (.bool (decide (e_16.1 ≥ e_16.2)))) (.bool (decide (e_16.1 ≥ e_16.2))) (Eq.trans (b := .bool (decide (e_16.1 < 0))) rfl (congrArg V.bool hg4)) rfl rfl rfl ?_
        refine g_v1 (t := 26) (u := (.bool (decide (e_16.1 ≥ e_16.2)))) (.bool (decide (e_16.1 ≥ e_16.2))) rfl rfl rfl ?_
        refine split_on (c := decide (e_16.1 ≥ e_16.2)) h (fun hg11 h => ?_) (fun hg11 h => ?_)
        · refine g_no (Eq.trans (b := .bool (decide (e_16.1 ≥ e_16.2))) rfl (congrArg V.bool hg11)) ?_
          refine g_no (Eq.trans (b := .bool (decide (e_16.1 ≥ e_16.2))) rfl (congrArg V.bool hg11)) ?_
          refine g_no (Eq.trans (b := .bool (decide (e_16.1 ≥ e_16.2))) rfl (congrArg V.bool hg11)) ?_
          refine g_no (Eq.trans (b := .bool (decide (e_16.1 ≥ e_16.2))) rfl (congrArg V.bool hg11)) ?_
          refine g_no (Eq.trans (b := .bool (decide (e_16.1 ≥ e_16.2))) rfl (congrArg V.bool hg11)) ?_
          refine g_v2 (t1 := 27) (t2 := 32) (u1 := (.bool true)) (u2 := (.tup [])) (.bool true) (Eq.trans (b := .bool (decide (e_16.1 ≥ e_16.2))) rfl (congrArg V.bool hg11)) rfl rfl rfl ?_
          refine g_v1 (t := 33) (u := (.bool true)) (.bool true) rfl rfl rfl ?_
          refine g_no rfl ?_
          refine g_no rfl ?_
          refine g_no rfl ?_
          refine g_skip rfl ?_
          refine g_skip rfl ?_
          refine g_skip rfl ?_
          refine g_skip rfl ?_
          refine g_skip rfl ?_
          refine g_skip rfl ?_
          refine g_skip rfl ?_
          refine g_skip rfl ?_
          refine g_skip rfl ?_
          refine g_no rfl ?_
          refine g_v2 (t1 := 34) (t2 := 47) (u1 := (.bool true)) (u2 := (.tup [])) (.bool true) rfl rfl rfl rfl ?_
          refine g_end ?_
          refine e_end ?_
          refine renew [(1, (.ref (.bx 1) 0 [] (.agg [(.int .i64 g_1.1), (Enc.enc (g_1.2 : List (Int × Int)))]))), (2, (.bool false)), (10, (Enc.enc (g_1.2 : List (Int × Int)))), (11, (.int .i64 (g_1.2.length : Int))), (12, (.int .i64 t12_9)), (48, (.bool true))] ⟨h1, h2, h10, h11, h12, rfl⟩ ?_
          rintro s ⟨h1, h2, h10, h11, h12, h48⟩
          exact t_f50_j1 H g_1 t12_9 (i_IsGraph_l1 F g_1 k) ih true _ ⟨h1, h2, h10, h11, h12, h48⟩ h
        · refine g_yes (Eq.trans (b := .bool (decide (e_16.1 ≥ e_16.2))) rfl (congrArg V.bool hg11)) (g_v1 (t := 4) (u := (.ref (.bx 4) 0 [] (.agg [(.int .i64 e_16.1), (.int .i64 e_16.2)]))) (.ref (.bx 4) 0 [1] (.int .i64 e_16.2)) h4 rfl rfl ?_)
          refine g_yes (Eq.trans (b := .bool (decide (e_16.1 ≥ e_16.2))) rfl (congrArg V.bool hg11)) (g_v1 (t := 28) (u := (.ref (.bx 4) 0 [1] (.int .i64 e_16.2))) (.int .i64 e_16.2) rfl rfl rfl ?_)
          refine g_yes (Eq.trans (b := .bool (decide (e_16.1 ≥ e_16.2))) rfl (congrArg V.bool hg11)) (g_v1 (t := 1) (u := (.ref (.bx 1) 0 [] (.agg [(.int .i64 g_1.1), (Enc.enc (g_1.2 : List (Int × Int)))]))) (.ref (.bx 1) 0 [0] (.int .i64 g_1.1)) h1 rfl rfl ?_)
          refine g_yes (Eq.trans (b := .bool (decide (e_16.1 ≥ e_16.2))) rfl (congrArg V.bool hg11)) (g_v1 (t := 30) (u := (.ref (.bx 1) 0 [0] (.int .i64 g_1.1))) (.int .i64 g_1.1) rfl rfl rfl ?_)
          refine g_yes (Eq.trans (b := .bool (decide (e_16.1 ≥ e_16.2))) rfl (congrArg V.bool hg11)) (g_v2 (t1 := 29) (t2 := 31) (u1 := (.int .i64 e_16.2)) (u2 := (.int .i64 g_1.1)) (.bool (decide (e_16.2 ≥ g_1.1))) rfl rfl rfl rfl ?_)
          refine g_v2 (t1 := 27) (t2 := 32) (u1 := (.bool false)) (u2 := (.bool (decide (e_16.2 ≥ g_1.1)))) (.bool (decide (e_16.2 ≥ g_1.1))) (Eq.trans (b := .bool (decide (e_16.1 ≥ e_16.2))) rfl (congrArg V.bool hg11)) rfl rfl rfl ?_
          refine g_v1 (t := 33) (u := (.bool (decide (e_16.2 ≥ g_1.1)))) (.bool (decide (e_16.2 ≥ g_1.1))) rfl rfl rfl ?_
          refine split_on (c := decide (e_16.2 ≥ g_1.1)) h (fun hg18 h => ?_) (fun hg18 h => ?_)
          · refine g_no (Eq.trans (b := .bool (decide (e_16.2 ≥ g_1.1))) rfl (congrArg V.bool hg18)) ?_
            refine g_no (Eq.trans (b := .bool (decide (e_16.2 ≥ g_1.1))) rfl (congrArg V.bool hg18)) ?_
            refine g_no (Eq.trans (b := .bool (decide (e_16.2 ≥ g_1.1))) rfl (congrArg V.bool hg18)) ?_
            refine g_skip rfl ?_
            refine g_skip rfl ?_
            refine g_skip rfl ?_
            refine g_skip rfl ?_
            refine g_skip rfl ?_
            refine g_skip rfl ?_
            refine g_skip rfl ?_
            refine g_skip rfl ?_
            refine g_skip rfl ?_
            refine g_no (Eq.trans (b := .bool (decide (e_16.2 ≥ g_1.1))) rfl (congrArg V.bool hg18)) ?_
            refine g_v2 (t1 := 34) (t2 := 47) (u1 := (.bool true)) (u2 := (.tup [])) (.bool true) (Eq.trans (b := .bool (decide (e_16.2 ≥ g_1.1))) rfl (congrArg V.bool hg18)) rfl rfl rfl ?_
            refine g_end ?_
            refine e_end ?_
            refine renew [(1, (.ref (.bx 1) 0 [] (.agg [(.int .i64 g_1.1), (Enc.enc (g_1.2 : List (Int × Int)))]))), (2, (.bool false)), (10, (Enc.enc (g_1.2 : List (Int × Int)))), (11, (.int .i64 (g_1.2.length : Int))), (12, (.int .i64 t12_9)), (48, (.bool true))] ⟨h1, h2, h10, h11, h12, rfl⟩ ?_
            rintro s ⟨h1, h2, h10, h11, h12, h48⟩
            exact t_f50_j1 H g_1 t12_9 (i_IsGraph_l1 F g_1 k) ih true _ ⟨h1, h2, h10, h11, h12, h48⟩ h
          · refine g_yes (Eq.trans (b := .bool (decide (e_16.2 ≥ g_1.1))) rfl (congrArg V.bool hg18)) (g_v1 (t := 3) (u := (.int .i64 t12_9)) (.int .i64 t12_9) h3 rfl rfl ?_)
            refine g_yes (Eq.trans (b := .bool (decide (e_16.2 ≥ g_1.1))) rfl (congrArg V.bool hg18)) (g_v1 (t := 35) (u := (.int .i64 t12_9)) (.bool (decide (t12_9 > 0))) rfl rfl rfl ?_)
            refine g_yes (Eq.trans (b := .bool (decide (e_16.2 ≥ g_1.1))) rfl (congrArg V.bool hg18)) (g_v1 (t := 36) (u := (.bool (decide (t12_9 > 0)))) (.bool (decide (t12_9 > 0))) rfl rfl rfl ?_)
            refine split_on (c := decide (t12_9 > 0)) h (fun hg21 h => ?_) (fun hg21 h => ?_)
            · refine g_yes (Eq.trans (b := .bool (decide (t12_9 > 0))) rfl (congrArg V.bool hg21)) (g_v1 (t := 1) (u := (.ref (.bx 1) 0 [] (.agg [(.int .i64 g_1.1), (Enc.enc (g_1.2 : List (Int × Int)))]))) (.ref (.bx 1) 0 [1] (Enc.enc (g_1.2 : List (Int × Int)))) h1 rfl rfl ?_)
              refine g_yes (Eq.trans (b := .bool (decide (t12_9 > 0))) rfl (congrArg V.bool hg21)) (g_v1 (t := 38) (u := (.ref (.bx 1) 0 [1] (Enc.enc (g_1.2 : List (Int × Int))))) (Enc.enc (g_1.2 : List (Int × Int))) rfl rfl rfl ?_)
              refine g_yes (Eq.trans (b := .bool (decide (t12_9 > 0))) rfl (congrArg V.bool hg21)) (g_v1 (t := 3) (u := (.int .i64 t12_9)) (.int .i64 t12_9) h3 rfl rfl ?_)
              refine g_yes (Eq.trans (b := .bool (decide (t12_9 > 0))) rfl (congrArg V.bool hg21)) (g_v1 (t := 40) (u := (.int .i64 t12_9)) (.int .i64 (w64 (t12_9 - 1))) rfl rfl rfl ?_)
              obtain ⟨e_20, E_e_20, h⟩ := bind_some h
              refine g_yes (Eq.trans (b := .bool (decide (t12_9 > 0))) rfl (congrArg V.bool hg21)) (g_v (.ref .sh 0 [] (.agg [(.int .i64 e_20.1), (.int .i64 e_20.2)])) (ev_idx (t := .sh) (lo := 0) (xs := g_1.2) rfl rfl E_e_20 rfl rfl) ?_)
              refine g_yes (Eq.trans (b := .bool (decide (t12_9 > 0))) rfl (congrArg V.bool hg21)) (g_v1 (t := 42) (u := (.ref .sh 0 [] (.agg [(.int .i64 e_20.1), (.int .i64 e_20.2)]))) (Enc.enc ([e_20.1, e_20.2] : List Int)) rfl rfl rfl ?_)
              refine g_yes (Eq.trans (b := .bool (decide (t12_9 > 0))) rfl (congrArg V.bool hg21)) (g_v1 (t := 4) (u := (.ref (.bx 4) 0 [] (.agg [(.int .i64 e_16.1), (.int .i64 e_16.2)]))) (encO (.bx 4) (.of ([e_16.1, e_16.2] : List Int))) h4 rfl rfl ?_)
              obtain ⟨r_21, E_r_21, h⟩ := bind_some h
              refine g_yes (Eq.trans (b := .bool (decide (t12_9 > 0))) rfl (congrArg V.bool hg21)) (g_call (m := 0) (al := false) (r := (Enc.enc (r_21 : Int))) [Enc.enc ([e_20.1, e_20.2] : (List Int)), Enc.enc ([e_16.1, e_16.2] : (List Int))] (ta_cons (v := (Enc.enc ([e_20.1, e_20.2] : List Int))) rfl rfl (Enc.erase_enc ([e_20.1, e_20.2] : (List Int))) (ta_cons (v := (encO (.bx 4) (.of ([e_16.1, e_16.2] : List Int)))) rfl rfl (erase_encO (o := .of [e_16.1, e_16.2])) ta_nil)) (H.c100 _ _ _ E_r_21) H.g100 rfl rfl rfl rfl ?_)
              refine g_yes (Eq.trans (b := .bool (decide (t12_9 > 0))) rfl (congrArg V.bool hg21)) (g_v1 (t := 45) (u := (.int .i64 r_21)) (.bool (decide (r_21 ≥ 0))) rfl rfl rfl ?_)
              refine g_yes (Eq.trans (b := .bool (decide (e_16.2 ≥ g_1.1))) rfl (congrArg V.bool hg18)) (g_v2 (t1 := 37) (t2 := 46) (u1 := (.bool true)) (u2 := (.bool (decide (r_21 ≥ 0)))) (.bool (decide (r_21 ≥ 0))) (Eq.trans (b := .bool (decide (t12_9 > 0))) rfl (congrArg V.bool hg21)) rfl rfl rfl ?_)
              refine g_v2 (t1 := 34) (t2 := 47) (u1 := (.bool false)) (u2 := (.bool (decide (r_21 ≥ 0)))) (.bool (decide (r_21 ≥ 0))) (Eq.trans (b := .bool (decide (e_16.2 ≥ g_1.1))) rfl (congrArg V.bool hg18)) rfl rfl rfl ?_
              refine g_end ?_
              refine e_end ?_
              refine renew [(1, (.ref (.bx 1) 0 [] (.agg [(.int .i64 g_1.1), (Enc.enc (g_1.2 : List (Int × Int)))]))), (2, (.bool false)), (10, (Enc.enc (g_1.2 : List (Int × Int)))), (11, (.int .i64 (g_1.2.length : Int))), (12, (.int .i64 t12_9)), (48, (.bool (decide (r_21 ≥ 0))))] ⟨h1, h2, h10, h11, h12, rfl⟩ ?_
              rintro s ⟨h1, h2, h10, h11, h12, h48⟩
              exact t_f50_j1 H g_1 t12_9 (i_IsGraph_l1 F g_1 k) ih (decide (r_21 ≥ 0)) _ ⟨h1, h2, h10, h11, h12, h48⟩ h
            · refine g_no (Eq.trans (b := .bool (decide (t12_9 > 0))) rfl (congrArg V.bool hg21)) ?_
              refine g_no (Eq.trans (b := .bool (decide (t12_9 > 0))) rfl (congrArg V.bool hg21)) ?_
              refine g_no (Eq.trans (b := .bool (decide (t12_9 > 0))) rfl (congrArg V.bool hg21)) ?_
              refine g_no (Eq.trans (b := .bool (decide (t12_9 > 0))) rfl (congrArg V.bool hg21)) ?_
              refine g_no (Eq.trans (b := .bool (decide (t12_9 > 0))) rfl (congrArg V.bool hg21)) ?_
              refine g_no (Eq.trans (b := .bool (decide (t12_9 > 0))) rfl (congrArg V.bool hg21)) ?_
              refine g_no (Eq.trans (b := .bool (decide (t12_9 > 0))) rfl (congrArg V.bool hg21)) ?_
              refine g_no (Eq.trans (b := .bool (decide (t12_9 > 0))) rfl (congrArg V.bool hg21)) ?_
              refine g_no (Eq.trans (b := .bool (decide (t12_9 > 0))) rfl (congrArg V.bool hg21)) ?_
              refine g_yes (Eq.trans (b := .bool (decide (e_16.2 ≥ g_1.1))) rfl (congrArg V.bool hg18)) (g_v2 (t1 := 37) (t2 := 46) (u1 := (.bool false)) (u2 := (.tup [])) (.bool false) (Eq.trans (b := .bool (decide (t12_9 > 0))) rfl (congrArg V.bool hg21)) rfl rfl rfl ?_)
              refine g_v2 (t1 := 34) (t2 := 47) (u1 := (.bool false)) (u2 := (.bool false)) (.bool false) (Eq.trans (b := .bool (decide (e_16.2 ≥ g_1.1))) rfl (congrArg V.bool hg18)) rfl rfl rfl ?_
              refine g_end ?_
              refine e_end ?_
              refine renew [(1, (.ref (.bx 1) 0 [] (.agg [(.int .i64 g_1.1), (Enc.enc (g_1.2 : List (Int × Int)))]))), (2, (.bool false)), (10, (Enc.enc (g_1.2 : List (Int × Int)))), (11, (.int .i64 (g_1.2.length : Int))), (12, (.int .i64 t12_9)), (48, (.bool false))] ⟨h1, h2, h10, h11, h12, rfl⟩ ?_
              rintro s ⟨h1, h2, h10, h11, h12, h48⟩
              exact t_f50_j1 H g_1 t12_9 (i_IsGraph_l1 F g_1 k) ih false _ ⟨h1, h2, h10, h11, h12, h48⟩ h
    · refine .exit ?_
      refine .esq ?_
      refine .elp ?_
      refine .ebk ?_
      refine .nsq ?_
      refine .seq ?_
      refine run_reg ?_
      refine e_end ?_
      refine g_v0 (.bool true) rfl rfl ?_
      refine g_end ?_
      refine e_end ?_
      refine renew [(2, (.bool true))] rfl ?_
      rintro s h2
      refine .nsq ?_
      refine .ret ?_
      have hr := Option.some.inj h
      subst hr
      exact rrA (res_tmp h2) rfl
def i_IsGraph (F : Nat) (g_1 : (Int × (List (Int × Int)))) : Option Bool :=
  (i_within F g_1.1 0 8).bind fun r_2 =>
  bif (!r_2) then
    some false
  else
    i_IsGraph_l1 F g_1 F 0
theorem t50 (H : H50 D σ F) (g_1 : (Int × (List (Int × Int)))) (s : Nat → V) (hs : Facts [(0, (.agg [(.int .i64 g_1.1), (Enc.enc (g_1.2 : List (Int × Int)))]))] s) (h : i_IsGraph F g_1 = some r) : Run D σ (R50 r) (.run A50 []) s := by
  unfold i_IsGraph at h
  have h0 := hs
  refine .seq ?_
  refine run_reg ?_
  refine e_clr ?_
  refine e_end ?_
  refine g_box (.agg [(.int .i64 g_1.1), (Enc.enc (g_1.2 : List (Int × Int)))]) (rd_of (keep_clear (s := s) (pk := [1]) h0 rfl (map_agg (maps_cons rfl (maps_cons (Enc.map_enc _ (g_1.2 : List (Int × Int))) maps_nil)))) rfl) (gone_clear (s := s) (pk := [1]) (t := 1) rfl) rfl ?_
  refine g_v0 (.bool false) rfl rfl ?_
  refine g_end ?_
  refine e_end ?_
  refine renew [(1, (.ref (.bx 1) 0 [] (.agg [(.int .i64 g_1.1), (Enc.enc (g_1.2 : List (Int × Int)))]))), (2, (.bool false))] ⟨rfl, rfl⟩ ?_
  rintro s ⟨h1, h2⟩
  refine .nsq ?_
  refine .seq ?_
  refine .seq ?_
  refine run_reg ?_
  refine e_end ?_
  refine g_v1 (t := 1) (u := (.ref (.bx 1) 0 [] (.agg [(.int .i64 g_1.1), (Enc.enc (g_1.2 : List (Int × Int)))]))) (.ref (.bx 1) 0 [0] (.int .i64 g_1.1)) h1 rfl rfl ?_
  refine g_v1 (t := 5) (u := (.ref (.bx 1) 0 [0] (.int .i64 g_1.1))) (.int .i64 g_1.1) rfl rfl rfl ?_
  obtain ⟨r_2, E_r_2, h⟩ := bind_some h
  refine g_call (m := 0) (al := false) (r := (Enc.enc (r_2 : Bool))) [Enc.enc (g_1.1 : Int), Enc.enc (0 : Int), Enc.enc (8 : Int)] (ta_cons (v := (.int .i64 g_1.1)) rfl rfl rfl (ta_cons (v := (.int .i64 0)) rfl rfl rfl (ta_cons (v := (.int .i64 8)) rfl rfl rfl ta_nil))) (H.c66 _ _ _ _ E_r_2) H.g66 rfl rfl rfl rfl ?_
  refine g_v1 (t := 7) (u := (.bool r_2)) (.bool (!r_2)) rfl rfl rfl ?_
  refine g_end ?_
  refine e_end ?_
  refine renew [(1, (.ref (.bx 1) 0 [] (.agg [(.int .i64 g_1.1), (Enc.enc (g_1.2 : List (Int × Int)))]))), (2, (.bool false)), (8, (.bool (!r_2)))] ⟨h1, h2, rfl⟩ ?_
  rintro s ⟨h1, h2, h8⟩
  refine .nsq ?_
  refine run_cond (t := (!r_2)) h8 h (fun h => ?_) (fun h => ?_)
  · refine .seq ?_
    refine run_reg ?_
    refine e_end ?_
    refine g_v0 (.bool false) rfl rfl ?_
    refine g_end ?_
    refine e_end ?_
    refine renew [(1, (.ref (.bx 1) 0 [] (.agg [(.int .i64 g_1.1), (Enc.enc (g_1.2 : List (Int × Int)))]))), (2, (.bool false))] ⟨h1, rfl⟩ ?_
    rintro s ⟨h1, h2⟩
    refine .nsq ?_
    refine .ret ?_
    have hr := Option.some.inj h
    subst hr
    exact rrA (res_tmp h2) rfl
  · refine .skip ?_
    refine .nsq ?_
    refine .seq ?_
    refine .seq ?_
    refine run_reg ?_
    refine e_end ?_
    refine g_v1 (t := 1) (u := (.ref (.bx 1) 0 [] (.agg [(.int .i64 g_1.1), (Enc.enc (g_1.2 : List (Int × Int)))]))) (.ref (.bx 1) 0 [1] (Enc.enc (g_1.2 : List (Int × Int)))) h1 rfl rfl ?_
    refine g_v1 (t := 9) (u := (.ref (.bx 1) 0 [1] (Enc.enc (g_1.2 : List (Int × Int))))) (Enc.enc (g_1.2 : List (Int × Int))) rfl rfl rfl ?_
    refine g_v (.int .i64 (g_1.2.length : Int)) (ev_len (xs := g_1.2) rfl) ?_
    refine g_v0 (.int .i64 0) rfl rfl ?_
    refine g_end ?_
    refine e_end ?_
    refine renew [(1, (.ref (.bx 1) 0 [] (.agg [(.int .i64 g_1.1), (Enc.enc (g_1.2 : List (Int × Int)))]))), (2, (.bool false)), (10, (Enc.enc (g_1.2 : List (Int × Int)))), (11, (.int .i64 (g_1.2.length : Int))), (12, (.int .i64 0))] ⟨h1, h2, rfl, rfl, rfl⟩ ?_
    rintro s ⟨h1, h2, h10, h11, h12⟩
    refine .nsq ?_
    refine .block ?_
    refine .loop ?_
    exact t_f50_l1 H g_1 F 0 _ ⟨h1, h2, h10, h11, h12⟩ h
end
def e50 (F : Nat) : Ent := ⟨50, dn1 (i_IsGraph F) (fun (r : Bool) => (Enc.enc (r : Bool))), 0, false⟩
theorem o50 {D : Den} {σ : Sig} {F : Nat} (hF : Fits2 Try.prog D σ) (H : H50 D σ F) : (e50 F).Ok Try.prog := by
  refine ⟨fun args r h => ?_, ⟨Try.f50, Try.func50, rfl, rfl⟩⟩
  obtain ⟨x0, y, rfl, hy, rfl⟩ := dn1_open h
  exact contract_run hF (by kernel_rfl) Try.func50 rfl c50 (show 1 ≤ Try.f50.ntmps by decide) (t50 H x0 _ rfl hy)
/- loop.example/g01109/impl.netOf -/
def A55_5 : AC := (AC.reg [] [(I.mk (some 28) none false (X.v (A.fld (O.t 3) 0 0))), (I.mk (some 29) none false (X.v (A.load Sh.p (O.t 28)))), (I.mk (some 30) none false (X.v (A.idxA (O.t 5) (O.k (V.int IntKind.i64 (Int.ofNat 1))) 2 1))), (I.mk (some 31) none false (X.v (A.load Sh.s (O.t 30)))), (I.mk (some 32) none false (X.v (A.idx (O.t 29) (O.t 31) 1))), (I.mk (some 33) none false (X.v (A.load Sh.s (O.t 32)))), (I.mk (some 34) none false (X.v (A.idxA (O.t 5) (O.k (V.int IntKind.i64 (Int.ofNat 0))) 2 1))), (I.mk (some 35) none false (X.v (A.load Sh.s (O.t 34)))), (I.mk (some 36) none false (X.v (A.bin BinOp.shl (O.k (V.int IntKind.i64 (Int.ofNat 1))) (O.t 35)))), (I.mk (some 37) none false (X.v (A.bin BinOp.or (O.t 33) (O.t 36)))), (I.mk (some 38) none false (X.v (A.idx (O.t 29) (O.t 31) 1))), (I.mk none none false (X.store Sh.s (O.t 38) (O.t 37)))] [])
def A55_4 : AC := (AC.seq (AC.reg [] [(I.mk (some 17) none false (X.v (A.fld (O.t 3) 0 0))), (I.mk (some 18) none false (X.v (A.load Sh.p (O.t 17)))), (I.mk (some 19) none false (X.v (A.idxA (O.t 5) (O.k (V.int IntKind.i64 (Int.ofNat 0))) 2 1))), (I.mk (some 20) none false (X.v (A.load Sh.s (O.t 19)))), (I.mk (some 21) none false (X.v (A.idx (O.t 18) (O.t 20) 1))), (I.mk (some 22) none false (X.v (A.load Sh.s (O.t 21)))), (I.mk (some 23) none false (X.v (A.idxA (O.t 5) (O.k (V.int IntKind.i64 (Int.ofNat 1))) 2 1))), (I.mk (some 24) none false (X.v (A.load Sh.s (O.t 23)))), (I.mk (some 25) none false (X.v (A.bin BinOp.shl (O.k (V.int IntKind.i64 (Int.ofNat 1))) (O.t 24)))), (I.mk (some 26) none false (X.v (A.bin BinOp.or (O.t 22) (O.t 25)))), (I.mk (some 27) none false (X.v (A.idx (O.t 18) (O.t 20) 1))), (I.mk none none false (X.store Sh.s (O.t 27) (O.t 26)))] []) A55_5)
def A55_6 : AC := (AC.reg [] [(I.mk (some 39) none false (X.v (A.bin BinOp.add (O.t 13) (O.k (V.int IntKind.i64 (Int.ofNat 1)))))), (I.mk (some 13) none false (X.v (A.mov (O.t 39))))] [])
def A55_3 : AC := (AC.seq (AC.block 1 (AC.seq (AC.reg [.clr [5]] [(I.mk (some 15) none false (X.v (A.idx (O.t 11) (O.t 13) 2))), (I.mk (some 16) none false (X.v (A.load (Sh.ag [Sh.s, Sh.s]) (O.t 15)))), (I.mk (some 5) none false (X.alloc (V.agg [(V.int IntKind.i64 (Int.ofNat 0)), (V.int IntKind.i64 (Int.ofNat 0))]))), (I.mk none none false (X.store (Sh.ag [Sh.s, Sh.s]) (O.t 5) (O.t 16)))] []) A55_4)) A55_6)
def A55_2 : AC := (AC.seq (AC.cond (O.t 14) AC.skip (AC.exit 0)) A55_3)
def A55_1 : AC := (AC.seq (AC.reg [] [(I.mk (some 14) none false (X.v (A.bin BinOp.lss (O.t 13) (O.t 12))))] []) A55_2)
def A55_7 : AC := (AC.seq (AC.reg [] [(I.mk (some 40) none false (X.v (A.load (Sh.ag [Sh.p]) (O.t 3)))), (I.mk none none false (X.store (Sh.ag [Sh.p]) (O.t 2) (O.t 40)))] []) AC.ret)
def A55_10 : AC := (AC.block 0 (AC.loop A55_1))
def A55_9 : AC := (AC.seq (AC.seq (AC.reg [] [(I.mk (some 10) none false (X.v (A.fld (O.t 1) 1 1))), (I.mk (some 11) none false (X.v (A.load Sh.p (O.t 10)))), (I.mk (some 12) none false (X.v (A.len (O.t 11)))), (I.mk (some 13) none false (X.v (A.mov (O.k (V.int IntKind.i64 (Int.ofNat 0))))))] []) A55_10) A55_7)
def A55_8 : AC := (AC.seq (AC.reg [.clr [8, 3]] [(I.mk (some 6) none false (X.v (A.fld (O.t 1) 0 0))), (I.mk (some 7) none false (X.v (A.load Sh.s (O.t 6)))), (I.mk (some 8) none false (X.mk (O.t 7) (V.int IntKind.i64 (Int.ofNat 0)))), (I.mk (some 9) none false (X.v (A.bld (V.agg [(V.sl Tok.nl Sh.s 0 [])]) [(0, 0, (O.t 8))]))), (I.mk (some 3) none false (X.alloc (V.agg [(V.sl Tok.nl Sh.s 0 [])]))), (I.mk none none false (X.store (Sh.ag [Sh.p]) (O.t 3) (O.t 9)))] []) A55_9)
def A55 : AC := (AC.seq (AC.reg [.clr [1, 2]] [(I.mk (some 1) none false (X.box (O.t 0))), (I.mk (some 2) none false (X.alloc (V.agg [(V.sl Tok.nl Sh.s 0 [])])))] []) A55_8)
def an55 : List An := [{ id := 0, pre := [.clr [1, 2]], ep := [], lin := [], sp := [] }, { id := 1, pre := [.clr [8, 3]], ep := [], lin := [], sp := [] }, { id := 4, pre := [.clr [5]], ep := [], lin := [], sp := [] }]
theorem c55 : cC Try.prog Try.f55.ntmps an55 (Try.f55.body.getD .skip) = some A55 := by kernel_rfl
structure H55 (D : Den) (σ : Sig) (F : Nat) : Prop where
  mk ::
abbrev R55 (r : (S1 (List Int))) : (Nat → V) → Prop := RR Try.prog [.cell 2 56] 0 true (Enc.enc (r : (S1 (List Int))))
section
variable {D : Den} {σ : Sig} {F : Nat} {r : (S1 (List Int))}
def i_netOf_l1 (F : Nat) (g_1 : (Int × (List (Int × Int))))  : Nat → (List Int) → Int → Option (S1 (List Int))
  | 0, _, _ => none
  | k + 1, w_10, t13_11 =>
    bif decide (t13_11 < (g_1.2.length : Int)) then
      (idx g_1.2 t13_11).bind fun e_19 =>
      (idx w_10 e_19.1).bind fun e_20 =>
      (shlI .i64 1 e_19.2).bind fun q_21 =>
      (idx w_10 e_19.1).bind fun e_22 =>
      (idx (w_10.set e_19.1.toNat (ior .i64 e_20 q_21)) e_19.2).bind fun e_23 =>
      (shlI .i64 1 e_19.1).bind fun q_24 =>
      (idx (w_10.set e_19.1.toNat (ior .i64 e_20 q_21)) e_19.2).bind fun e_25 =>
      (i_netOf_l1 F g_1 k) ((w_10.set e_19.1.toNat (ior .i64 e_20 q_21)).set e_19.2.toNat (ior .i64 e_23 q_24)) (w64 (t13_11 + 1))
    else
      some (S1.mk w_10)
theorem t_f55_l1 (H : H55 D σ F) (g_1 : (Int × (List (Int × Int))))  : ∀ (k : Nat) (w_10 : (List Int)) (t13_11 : Int) (s : Nat → V), Facts [(2, (.ref (.bx 2) 0 [] (.agg [(.sl .nl (Enc.shp Int) 0 [])]))), (3, (.ref (.bx 3) 0 [] (.agg [(encO (.at 8 []) (.of (w_10 : List Int)))]))), (11, (Enc.enc (g_1.2 : List (Int × Int)))), (12, (.int .i64 (g_1.2.length : Int))), (13, (.int .i64 t13_11))] s → i_netOf_l1 F g_1 k w_10 t13_11 = some r → Run D σ (R55 r) (.run A55_1 [.lp A55_1, .bk 0, .sq A55_7]) s := by
  intro k
  induction k with
  | zero => intro w_10 t13_11 s _ h; exact nomatch (h : (none : Option _) = some r)
  | succ k ih =>
    intro w_10 t13_11 s hs h
    rw [i_netOf_l1] at h
    obtain ⟨h2, h3, h11, h12, h13⟩ := hs
    refine .seq ?_
    refine run_reg ?_
    refine e_end ?_
    refine g_v2 (t1 := 13) (t2 := 12) (u1 := (.int .i64 t13_11)) (u2 := (.int .i64 (g_1.2.length : Int))) (.bool (decide (t13_11 < (g_1.2.length : Int)))) h13 h12 rfl rfl ?_
    refine g_end ?_
    refine e_end ?_
    refine renew [(2, (.ref (.bx 2) 0 [] (.agg [(.sl .nl (Enc.shp Int) 0 [])]))), (3, (.ref (.bx 3) 0 [] (.agg [(encO (.at 8 []) (.of (w_10 : List Int)))]))), (11, (Enc.enc (g_1.2 : List (Int × Int)))), (12, (.int .i64 (g_1.2.length : Int))), (13, (.int .i64 t13_11)), (14, (.bool (decide (t13_11 < (g_1.2.length : Int)))))] ⟨h2, h3, h11, h12, h13, rfl⟩ ?_
    rintro s ⟨h2, h3, h11, h12, h13, h14⟩
    refine .nsq ?_
    refine .seq ?_
    refine run_cond (t := decide (t13_11 < (g_1.2.length : Int))) h14 h (fun h => ?_) (fun h => ?_)
    · refine .skip ?_
      refine .nsq ?_
      refine .seq ?_
      refine .block ?_
      refine .seq ?_
      refine run_reg ?_
      refine e_clr ?_
      refine e_end ?_
      obtain ⟨e_19, E_e_19, h⟩ := bind_some h
      refine g_v (.ref .sh 0 [] (.agg [(.int .i64 e_19.1), (.int .i64 e_19.2)])) (ev_idx (t := .sh) (lo := 0) (xs := g_1.2) (keep_clear (s := s) (pk := [5]) h11 rfl (Enc.map_enc _ (g_1.2 : List (Int × Int)))) (keep_clear (s := s) (pk := [5]) h13 rfl rfl) E_e_19 rfl rfl) ?_
      refine g_v1 (t := 15) (u := (.ref .sh 0 [] (.agg [(.int .i64 e_19.1), (.int .i64 e_19.2)]))) (.agg [(.int .i64 e_19.1), (.int .i64 e_19.2)]) rfl rfl rfl ?_
      refine g_alloc (gone_clear (s := s) (pk := [5]) (t := 5) rfl) ?_
      refine g_store (.agg [(.int .i64 e_19.1), (.int .i64 e_19.2)]) (rd_of rfl rfl) (rd_of rfl rfl) (by refine ⟨by decide, by decide, rfl, rfl, rfl, ?_⟩; first | rfl | simp [V.toks, V.tokss, Enc.toks_enc]) ?_
      refine g_end ?_
      refine e_end ?_
      refine renew [(2, (.ref (.bx 2) 0 [] (.agg [(.sl .nl (Enc.shp Int) 0 [])]))), (3, (.ref (.bx 3) 0 [] (.agg [(encO (.at 8 []) (.of (w_10 : List Int)))]))), (5, (.ref (.bx 5) 0 [] (.agg [(.int .i64 e_19.1), (.int .i64 e_19.2)]))), (11, (Enc.enc (g_1.2 : List (Int × Int)))), (12, (.int .i64 (g_1.2.length : Int))), (13, (.int .i64 t13_11))] ⟨(keep_mut (keep_clear (s := s) (pk := [5]) h2 rfl (map_bx rfl (map_agg (maps_cons rfl maps_nil)))) (mut_ref_ne rfl rfl (mut_agg (muts_cons rfl rfl)))), (keep_mut (keep_clear (s := s) (pk := [5]) h3 rfl (map_bx rfl (map_agg (maps_cons (map_encO (r := 8) (p := []) rfl rfl) maps_nil)))) (mut_ref_ne rfl rfl (mut_agg (muts_cons (mut_own_ne rfl rfl) rfl)))), (keep_mut rfl rfl), (keep_mut (keep_clear (s := s) (pk := [5]) h11 rfl (Enc.map_enc _ (g_1.2 : List (Int × Int)))) (Enc.mut_enc _ _ _ _ (g_1.2 : List (Int × Int)))), (keep_mut (keep_clear (s := s) (pk := [5]) h12 rfl rfl) rfl), (keep_mut (keep_clear (s := s) (pk := [5]) h13 rfl rfl) rfl)⟩ ?_
      rintro s ⟨h2, h3, h5, h11, h12, h13⟩
      refine .nsq ?_
      refine .seq ?_
      refine run_reg ?_
      refine e_end ?_
      refine g_v1 (t := 3) (u := (.ref (.bx 3) 0 [] (.agg [(encO (.at 8 []) (.of (w_10 : List Int)))]))) (.ref (.bx 3) 0 [0] (encO (.at 8 []) (.of (w_10 : List Int)))) h3 rfl rfl ?_
      refine g_v1 (t := 17) (u := (.ref (.bx 3) 0 [0] (encO (.at 8 []) (.of (w_10 : List Int))))) (encO (.at 8 []) (.of (w_10 : List Int))) rfl rfl rfl ?_
      refine g_v1 (t := 5) (u := (.ref (.bx 5) 0 [] (.agg [(.int .i64 e_19.1), (.int .i64 e_19.2)]))) (.ref (.bx 5) 0 [0] (.int .i64 e_19.1)) h5 rfl rfl ?_
      refine g_v1 (t := 19) (u := (.ref (.bx 5) 0 [0] (.int .i64 e_19.1))) (.int .i64 e_19.1) rfl rfl rfl ?_
      obtain ⟨e_20, E_e_20, h⟩ := bind_some h
      refine g_v (.ref (.at 8 []) e_19.1.toNat [] (.int .i64 e_20)) (ev_idxO (o := (.of w_10)) rfl rfl E_e_20 rfl) ?_
      refine g_v1 (t := 21) (u := (.ref (.at 8 []) e_19.1.toNat [] (.int .i64 e_20))) (.int .i64 e_20) rfl rfl rfl ?_
      refine g_v1 (t := 5) (u := (.ref (.bx 5) 0 [] (.agg [(.int .i64 e_19.1), (.int .i64 e_19.2)]))) (.ref (.bx 5) 0 [1] (.int .i64 e_19.2)) h5 rfl rfl ?_
      refine g_v1 (t := 23) (u := (.ref (.bx 5) 0 [1] (.int .i64 e_19.2))) (.int .i64 e_19.2) rfl rfl rfl ?_
      obtain ⟨q_21, E_q_21, h⟩ := bind_some h
      refine g_v (.int .i64 q_21) (ev_shl rfl rfl E_q_21) ?_
      refine g_v2 (t1 := 22) (t2 := 25) (u1 := (.int .i64 e_20)) (u2 := (.int .i64 q_21)) (.int .i64 (ior .i64 e_20 q_21)) rfl rfl rfl rfl ?_
      obtain ⟨e_22, E_e_22, h⟩ := bind_some h
      refine g_v (.ref (.at 8 []) e_19.1.toNat [] (.int .i64 e_22)) (ev_idxO (o := (.of w_10)) rfl rfl E_e_22 rfl) ?_
      refine g_store (.int .i64 (ior .i64 e_20 q_21)) (rd_of rfl rfl) (rd_of rfl rfl) (by refine ⟨by decide, by decide, rfl, rfl, rfl, ?_⟩; first | rfl | simp [V.toks, V.tokss, Enc.toks_enc]) ?_
      refine g_end ?_
      refine e_end ?_
      refine renew [(2, (.ref (.bx 2) 0 [] (.agg [(.sl .nl (Enc.shp Int) 0 [])]))), (3, (.ref (.bx 3) 0 [] (.agg [(encO (.at 8 []) (.of (w_10.set e_19.1.toNat (ior .i64 e_20 q_21) : List Int)))]))), (5, (.ref (.bx 5) 0 [] (.agg [(.int .i64 e_19.1), (.int .i64 e_19.2)]))), (11, (Enc.enc (g_1.2 : List (Int × Int)))), (12, (.int .i64 (g_1.2.length : Int))), (13, (.int .i64 t13_11))] ⟨(keep_mut h2 (mut_ref_ne rfl rfl (mut_agg (muts_cons rfl rfl)))), (keep_mut h3 (mut_ref_ne rfl rfl (mut_agg (muts_cons mut_own rfl)))), (keep_mut h5 rfl), (keep_mut h11 (Enc.mut_enc _ _ _ _ (g_1.2 : List (Int × Int)))), (keep_mut h12 rfl), (keep_mut h13 rfl)⟩ ?_
      rintro s ⟨h2, h3, h5, h11, h12, h13⟩
      refine .nsq ?_
      refine run_reg ?_
      refine e_end ?_
      refine g_v1 (t := 3) (u := (.ref (.bx 3) 0 [] (.agg [(encO (.at 8 []) (.of (w_10.set e_19.1.toNat (ior .i64 e_20 q_21) : List Int)))]))) (.ref (.bx 3) 0 [0] (encO (.at 8 []) (.of (w_10.set e_19.1.toNat (ior .i64 e_20 q_21) : List Int)))) h3 rfl rfl ?_
      refine g_v1 (t := 28) (u := (.ref (.bx 3) 0 [0] (encO (.at 8 []) (.of (w_10.set e_19.1.toNat (ior .i64 e_20 q_21) : List Int))))) (encO (.at 8 []) (.of (w_10.set e_19.1.toNat (ior .i64 e_20 q_21) : List Int))) rfl rfl rfl ?_
      refine g_v1 (t := 5) (u := (.ref (.bx 5) 0 [] (.agg [(.int .i64 e_19.1), (.int .i64 e_19.2)]))) (.ref (.bx 5) 0 [1] (.int .i64 e_19.2)) h5 rfl rfl ?_
      refine g_v1 (t := 30) (u := (.ref (.bx 5) 0 [1] (.int .i64 e_19.2))) (.int .i64 e_19.2) rfl rfl rfl ?_
      obtain ⟨e_23, E_e_23, h⟩ := bind_some h
      refine g_v (.ref (.at 8 []) e_19.2.toNat [] (.int .i64 e_23)) (ev_idxO (o := (.of (w_10.set e_19.1.toNat (ior .i64 e_20 q_21)))) rfl rfl E_e_23 rfl) ?_
      refine g_v1 (t := 32) (u := (.ref (.at 8 []) e_19.2.toNat [] (.int .i64 e_23))) (.int .i64 e_23) rfl rfl rfl ?_
      refine g_v1 (t := 5) (u := (.ref (.bx 5) 0 [] (.agg [(.int .i64 e_19.1), (.int .i64 e_19.2)]))) (.ref (.bx 5) 0 [0] (.int .i64 e_19.1)) h5 rfl rfl ?_
      refine g_v1 (t := 34) (u := (.ref (.bx 5) 0 [0] (.int .i64 e_19.1))) (.int .i64 e_19.1) rfl rfl rfl ?_
      obtain ⟨q_24, E_q_24, h⟩ := bind_some h
      refine g_v (.int .i64 q_24) (ev_shl rfl rfl E_q_24) ?_
      refine g_v2 (t1 := 33) (t2 := 36) (u1 := (.int .i64 e_23)) (u2 := (.int .i64 q_24)) (.int .i64 (ior .i64 e_23 q_24)) rfl rfl rfl rfl ?_
      obtain ⟨e_25, E_e_25, h⟩ := bind_some h
      refine g_v (.ref (.at 8 []) e_19.2.toNat [] (.int .i64 e_25)) (ev_idxO (o := (.of (w_10.set e_19.1.toNat (ior .i64 e_20 q_21)))) rfl rfl E_e_25 rfl) ?_
      refine g_store (.int .i64 (ior .i64 e_23 q_24)) (rd_of rfl rfl) (rd_of rfl rfl) (by refine ⟨by decide, by decide, rfl, rfl, rfl, ?_⟩; first | rfl | simp [V.toks, V.tokss, Enc.toks_enc]) ?_
      refine g_end ?_
      refine e_end ?_
      refine renew [(2, (.ref (.bx 2) 0 [] (.agg [(.sl .nl (Enc.shp Int) 0 [])]))), (3, (.ref (.bx 3) 0 [] (.agg [(encO (.at 8 []) (.of ((w_10.set e_19.1.toNat (ior .i64 e_20 q_21)).set e_19.2.toNat (ior .i64 e_23 q_24) : List Int)))]))), (11, (Enc.enc (g_1.2 : List (Int × Int)))), (12, (.int .i64 (g_1.2.length : Int))), (13, (.int .i64 t13_11))] ⟨(keep_mut h2 (mut_ref_ne rfl rfl (mut_agg (muts_cons rfl rfl)))), (keep_mut h3 (mut_ref_ne rfl rfl (mut_agg (muts_cons mut_own rfl)))), (keep_mut h11 (Enc.mut_enc _ _ _ _ (g_1.2 : List (Int × Int)))), (keep_mut h12 rfl), (keep_mut h13 rfl)⟩ ?_
      rintro s ⟨h2, h3, h11, h12, h13⟩
      refine .nbk ?_
      refine .nsq ?_
      refine run_reg ?_
      refine e_end ?_
      refine g_v1 (t := 13) (u := (.int .i64 t13_11)) (.int .i64 (w64 (t13_11 + 1))) h13 rfl rfl ?_
      refine g_v1 (t := 39) (u := (.int .i64 (w64 (t13_11 + 1)))) (.int .i64 (w64 (t13_11 + 1))) rfl rfl rfl ?_
      refine g_end ?_
      refine e_end ?_
      refine renew [(2, (.ref (.bx 2) 0 [] (.agg [(.sl .nl (Enc.shp Int) 0 [])]))), (3, (.ref (.bx 3) 0 [] (.agg [(encO (.at 8 []) (.of ((w_10.set e_19.1.toNat (ior .i64 e_20 q_21)).set e_19.2.toNat (ior .i64 e_23 q_24) : List Int)))]))), (11, (Enc.enc (g_1.2 : List (Int × Int)))), (12, (.int .i64 (g_1.2.length : Int))), (13, (.int .i64 (w64 (t13_11 + 1))))] ⟨h2, h3, h11, h12, rfl⟩ ?_
      rintro s ⟨h2, h3, h11, h12, h13⟩
      refine .nlp ?_
      exact ih ((w_10.set e_19.1.toNat (ior .i64 e_20 q_21)).set e_19.2.toNat (ior .i64 e_23 q_24)) (w64 (t13_11 + 1)) _ ⟨h2, h3, h11, h12, h13⟩ h
    · refine .exit ?_
      refine .esq ?_
      refine .elp ?_
      refine .ebk ?_
      refine .nsq ?_
      refine .seq ?_
      refine run_reg ?_
      refine e_end ?_
      refine g_v1 (t := 3) (u := (.ref (.bx 3) 0 [] (.agg [(encO (.at 8 []) (.of (w_10 : List Int)))]))) (.agg [(encO (.at 8 []) (.of (w_10 : List Int)))]) h3 rfl rfl ?_
      refine g_store (.agg [(encO (.at 8 []) (.of (w_10 : List Int)))]) (rd_of h2 rfl) (rd_of rfl rfl) (by refine ⟨by decide, by decide, rfl, rfl, rfl, ?_⟩; first | rfl | simp [V.toks, V.tokss, Enc.toks_enc]) ?_
      refine g_end ?_
      refine e_end ?_
      refine renew [(2, (.ref (.bx 2) 0 [] (.agg [(encO (.at 8 []) (.of (w_10 : List Int)))])))] (keep_mut h2 rfl) ?_
      rintro s h2
      refine .nsq ?_
      refine .ret ?_
      have hr := Option.some.inj h
      subst hr
      exact rrA (res_cell h2 (by kernel_rfl)) (fin_ret1 (fin_agg (fins_cons (fin_own (o := .of w_10)) fins_nil)))
def i_netOf (F : Nat) (g_1 : (Int × (List (Int × Int)))) : Option (S1 (List Int)) :=
  (mkN g_1.1 0).bind fun mk_2 =>
  i_netOf_l1 F g_1 F mk_2 0
theorem t55 (H : H55 D σ F) (g_1 : (Int × (List (Int × Int)))) (s : Nat → V) (hs : Facts [(0, (.agg [(.int .i64 g_1.1), (Enc.enc (g_1.2 : List (Int × Int)))]))] s) (h : i_netOf F g_1 = some r) : Run D σ (R55 r) (.run A55 []) s := by
  unfold i_netOf at h
  have h0 := hs
  refine .seq ?_
  refine run_reg ?_
  refine e_clr ?_
  refine e_end ?_
  refine g_box (.agg [(.int .i64 g_1.1), (Enc.enc (g_1.2 : List (Int × Int)))]) (rd_of (keep_clear (s := s) (pk := [1, 2]) h0 rfl (map_agg (maps_cons rfl (maps_cons (Enc.map_enc _ (g_1.2 : List (Int × Int))) maps_nil)))) rfl) (gone_clear (s := s) (pk := [1, 2]) (t := 1) rfl) rfl ?_
  refine g_alloc (gone_clear (s := s) (pk := [1, 2]) (t := 2) rfl) ?_
  refine g_end ?_
  refine e_end ?_
  refine renew [(1, (.ref (.bx 1) 0 [] (.agg [(.int .i64 g_1.1), (Enc.enc (g_1.2 : List (Int × Int)))]))), (2, (.ref (.bx 2) 0 [] (.agg [(.sl .nl (Enc.shp Int) 0 [])])))] ⟨rfl, rfl⟩ ?_
  rintro s ⟨h1, h2⟩
  refine .nsq ?_
  refine .seq ?_
  refine run_reg ?_
  refine e_clr ?_
  refine e_end ?_
  refine g_v1 (t := 1) (u := (.ref (.bx 1) 0 [] (.agg [(.int .i64 g_1.1), (Enc.enc (g_1.2 : List (Int × Int)))]))) (.ref (.bx 1) 0 [0] (.int .i64 g_1.1)) (keep_clear (s := s) (pk := [8, 3]) h1 rfl (map_bx rfl (map_agg (maps_cons rfl (maps_cons (Enc.map_enc _ (g_1.2 : List (Int × Int))) maps_nil))))) rfl rfl ?_
  refine g_v1 (t := 6) (u := (.ref (.bx 1) 0 [0] (.int .i64 g_1.1))) (.int .i64 g_1.1) rfl rfl rfl ?_
  obtain ⟨mk_2, E_mk_2, h⟩ := bind_some h
  refine g_mk (0 : Int) rfl rfl (gone_clear (s := s) (pk := [8, 3]) (t := 8) rfl) E_mk_2 ?_
  refine g_v1 (t := 8) (u := (encO (.at 8 []) (.of (mk_2 : List Int)))) (.agg [(encO (.at 8 []) (.of (mk_2 : List Int)))]) rfl rfl rfl ?_
  refine g_alloc (gone_clear (s := s) (pk := [8, 3]) (t := 3) rfl) ?_
  refine g_store (.agg [(encO (.at 8 []) (.of (mk_2 : List Int)))]) (rd_of rfl rfl) (rd_of rfl rfl) (by refine ⟨by decide, by decide, rfl, rfl, rfl, ?_⟩; first | rfl | simp [V.toks, V.tokss, Enc.toks_enc]) ?_
  refine g_end ?_
  refine e_end ?_
  refine renew [(1, (.ref (.bx 1) 0 [] (.agg [(.int .i64 g_1.1), (Enc.enc (g_1.2 : List (Int × Int)))]))), (2, (.ref (.bx 2) 0 [] (.agg [(.sl .nl (Enc.shp Int) 0 [])]))), (3, (.ref (.bx 3) 0 [] (.agg [(encO (.at 8 []) (.of (mk_2 : List Int)))])))] ⟨(keep_mut (keep_clear (s := s) (pk := [8, 3]) h1 rfl (map_bx rfl (map_agg (maps_cons rfl (maps_cons (Enc.map_enc _ (g_1.2 : List (Int × Int))) maps_nil))))) (mut_ref_ne rfl rfl (mut_agg (muts_cons rfl (muts_cons (Enc.mut_enc _ _ _ _ (g_1.2 : List (Int × Int))) rfl))))), (keep_mut (keep_clear (s := s) (pk := [8, 3]) h2 rfl (map_bx rfl (map_agg (maps_cons rfl maps_nil)))) (mut_ref_ne rfl rfl (mut_agg (muts_cons rfl rfl)))), (keep_mut rfl rfl)⟩ ?_
  rintro s ⟨h1, h2, h3⟩
  refine .nsq ?_
  refine .seq ?_
  refine .seq ?_
  refine run_reg ?_
  refine e_end ?_
  refine g_v1 (t := 1) (u := (.ref (.bx 1) 0 [] (.agg [(.int .i64 g_1.1), (Enc.enc (g_1.2 : List (Int × Int)))]))) (.ref (.bx 1) 0 [1] (Enc.enc (g_1.2 : List (Int × Int)))) h1 rfl rfl ?_
  refine g_v1 (t := 10) (u := (.ref (.bx 1) 0 [1] (Enc.enc (g_1.2 : List (Int × Int))))) (Enc.enc (g_1.2 : List (Int × Int))) rfl rfl rfl ?_
  refine g_v (.int .i64 (g_1.2.length : Int)) (ev_len (xs := g_1.2) rfl) ?_
  refine g_v0 (.int .i64 0) rfl rfl ?_
  refine g_end ?_
  refine e_end ?_
  refine renew [(2, (.ref (.bx 2) 0 [] (.agg [(.sl .nl (Enc.shp Int) 0 [])]))), (3, (.ref (.bx 3) 0 [] (.agg [(encO (.at 8 []) (.of (mk_2 : List Int)))]))), (11, (Enc.enc (g_1.2 : List (Int × Int)))), (12, (.int .i64 (g_1.2.length : Int))), (13, (.int .i64 0))] ⟨h2, h3, rfl, rfl, rfl⟩ ?_
  rintro s ⟨h2, h3, h11, h12, h13⟩
  refine .nsq ?_
  refine .block ?_
  refine .loop ?_
  exact t_f55_l1 H g_1 F mk_2 0 _ ⟨h2, h3, h11, h12, h13⟩ h
end
def e55 (F : Nat) : Ent := ⟨55, dn1 (i_netOf F) (fun (r : (S1 (List Int))) => (Enc.enc (r : (S1 (List Int))))), 0, true⟩
theorem o55 {D : Den} {σ : Sig} {F : Nat} (hF : Fits2 Try.prog D σ) (H : H55 D σ F) : (e55 F).Ok Try.prog := by
  refine ⟨fun args r h => ?_, ⟨Try.f55, Try.func55, rfl, rfl⟩⟩
  obtain ⟨x0, y, rfl, hy, rfl⟩ := dn1_open h
  exact contract_run hF (by kernel_rfl) Try.func55 rfl c55 (show 1 ≤ Try.f55.ntmps by decide) (t55 H x0 _ rfl hy)
/- (loop.example/g01109/impl.net).all -/
def A68_1 : AC := (AC.seq (AC.reg [] [(I.mk (some 3) none false (X.v (A.fld (O.t 1) 0 0))), (I.mk (some 4) none false (X.v (A.load Sh.p (O.t 3)))), (I.mk (some 5) none false (X.v (A.len (O.t 4)))), (I.mk (some 6) none false (X.v (A.bin BinOp.shl (O.k (V.int IntKind.i64 (Int.ofNat 1))) (O.t 5)))), (I.mk (some 7) none false (X.v (A.bin BinOp.sub (O.t 6) (O.k (V.int IntKind.i64 (Int.ofNat 1)))))), (I.mk (some 2) none false (X.v (A.mov (O.t 7))))] []) AC.ret)
def A68 : AC := (AC.seq (AC.reg [.clr [1]] [(I.mk (some 1) none false (X.box (O.t 0))), (I.mk (some 2) none false (X.v (A.mov (O.k (V.int IntKind.i64 (Int.ofNat 0))))))] []) A68_1)
def an68 : List An := [{ id := 0, pre := [.clr [1]], ep := [], lin := [], sp := [] }]
theorem c68 : cC Try.prog Try.f68.ntmps an68 (Try.f68.body.getD .skip) = some A68 := by kernel_rfl
structure H68 (D : Den) (σ : Sig) (F : Nat) : Prop where
  mk ::
abbrev R68 (r : Int) : (Nat → V) → Prop := RR Try.prog [.tmp 2] 0 false (Enc.enc (r : Int))
section
variable {D : Den} {σ : Sig} {F : Nat} {r : Int}
def i_net_all (F : Nat) (w_1 : (S1 (List Int))) : Option Int :=
  (shlI .i64 1 (w_1.a.length : Int)).bind fun q_2 =>
  some (w64 (q_2 - 1))
theorem t68 (H : H68 D σ F) (w_1 : (S1 (List Int))) (s : Nat → V) (hs : Facts [(0, (.agg [(Enc.enc (w_1.a : List Int))]))] s) (h : i_net_all F w_1 = some r) : Run D σ (R68 r) (.run A68 []) s := by
  unfold i_net_all at h
  have h0 := hs
  refine .seq ?_
  refine run_reg ?_
  refine e_clr ?_
  refine e_end ?_
  refine g_box (.agg [(Enc.enc (w_1.a : List Int))]) (rd_of (keep_clear (s := s) (pk := [1]) h0 rfl (map_agg (maps_cons (Enc.map_enc _ (w_1.a : List Int)) maps_nil))) rfl) (gone_clear (s := s) (pk := [1]) (t := 1) rfl) rfl ?_
  refine g_v0 (.int .i64 0) rfl rfl ?_
  refine g_end ?_
  refine e_end ?_
  refine renew [(1, (.ref (.bx 1) 0 [] (.agg [(Enc.enc (w_1.a : List Int))]))), (2, (.int .i64 0))] ⟨rfl, rfl⟩ ?_
  rintro s ⟨h1, h2⟩
  refine .nsq ?_
  refine .seq ?_
  refine run_reg ?_
  refine e_end ?_
  refine g_v1 (t := 1) (u := (.ref (.bx 1) 0 [] (.agg [(Enc.enc (w_1.a : List Int))]))) (.ref (.bx 1) 0 [0] (Enc.enc (w_1.a : List Int))) h1 rfl rfl ?_
  refine g_v1 (t := 3) (u := (.ref (.bx 1) 0 [0] (Enc.enc (w_1.a : List Int)))) (Enc.enc (w_1.a : List Int)) rfl rfl rfl ?_
  refine g_v (.int .i64 (w_1.a.length : Int)) (ev_len (xs := w_1.a) rfl) ?_
  obtain ⟨q_2, E_q_2, h⟩ := bind_some h
  refine g_v (.int .i64 q_2) (ev_shl rfl rfl E_q_2) ?_
  refine g_v1 (t := 6) (u := (.int .i64 q_2)) (.int .i64 (w64 (q_2 - 1))) rfl rfl rfl ?_
  refine g_v1 (t := 7) (u := (.int .i64 (w64 (q_2 - 1)))) (.int .i64 (w64 (q_2 - 1))) rfl rfl rfl ?_
  refine g_end ?_
  refine e_end ?_
  refine renew [(2, (.int .i64 (w64 (q_2 - 1))))] rfl ?_
  rintro s h2
  refine .nsq ?_
  refine .ret ?_
  have hr := Option.some.inj h
  subst hr
  exact rrA (res_tmp h2) rfl
end
def e68 (F : Nat) : Ent := ⟨68, dn1 (i_net_all F) (fun (r : Int) => (Enc.enc (r : Int))), 0, false⟩
theorem o68 {D : Den} {σ : Sig} {F : Nat} (hF : Fits2 Try.prog D σ) (H : H68 D σ F) : (e68 F).Ok Try.prog := by
  refine ⟨fun args r h => ?_, ⟨Try.f68, Try.func68, rfl, rfl⟩⟩
  obtain ⟨x0, y, rfl, hy, rfl⟩ := dn1_open h
  exact contract_run hF (by kernel_rfl) Try.func68 rfl c68 (show 1 ≤ Try.f68.ntmps by decide) (t68 H x0 _ rfl hy)
/- (loop.example/g01109/impl.net).size -/
def A139_1 : AC := (AC.seq (AC.reg [] [(I.mk (some 3) none false (X.v (A.fld (O.t 1) 0 0))), (I.mk (some 4) none false (X.v (A.load Sh.p (O.t 3)))), (I.mk (some 5) none false (X.v (A.len (O.t 4)))), (I.mk (some 2) none false (X.v (A.mov (O.t 5))))] []) AC.ret)
def A139 : AC := (AC.seq (AC.reg [.clr [1]] [(I.mk (some 1) none false (X.box (O.t 0))), (I.mk (some 2) none false (X.v (A.mov (O.k (V.int IntKind.i64 (Int.ofNat 0))))))] []) A139_1)
def an139 : List An := [{ id := 0, pre := [.clr [1]], ep := [], lin := [], sp := [] }]
theorem c139 : cC Try.prog Try.f139.ntmps an139 (Try.f139.body.getD .skip) = some A139 := by kernel_rfl
structure H139 (D : Den) (σ : Sig) (F : Nat) : Prop where
  mk ::
abbrev R139 (r : Int) : (Nat → V) → Prop := RR Try.prog [.tmp 2] 0 false (Enc.enc (r : Int))
section
variable {D : Den} {σ : Sig} {F : Nat} {r : Int}
def i_net_size (F : Nat) (w_1 : (S1 (List Int))) : Option Int :=
  some (w_1.a.length : Int)
theorem t139 (H : H139 D σ F) (w_1 : (S1 (List Int))) (s : Nat → V) (hs : Facts [(0, (.agg [(Enc.enc (w_1.a : List Int))]))] s) (h : i_net_size F w_1 = some r) : Run D σ (R139 r) (.run A139 []) s := by
  unfold i_net_size at h
  have h0 := hs
  refine .seq ?_
  refine run_reg ?_
  refine e_clr ?_
  refine e_end ?_
  refine g_box (.agg [(Enc.enc (w_1.a : List Int))]) (rd_of (keep_clear (s := s) (pk := [1]) h0 rfl (map_agg (maps_cons (Enc.map_enc _ (w_1.a : List Int)) maps_nil))) rfl) (gone_clear (s := s) (pk := [1]) (t := 1) rfl) rfl ?_
  refine g_v0 (.int .i64 0) rfl rfl ?_
  refine g_end ?_
  refine e_end ?_
  refine renew [(1, (.ref (.bx 1) 0 [] (.agg [(Enc.enc (w_1.a : List Int))]))), (2, (.int .i64 0))] ⟨rfl, rfl⟩ ?_
  rintro s ⟨h1, h2⟩
  refine .nsq ?_
  refine .seq ?_
  refine run_reg ?_
  refine e_end ?_
  refine g_v1 (t := 1) (u := (.ref (.bx 1) 0 [] (.agg [(Enc.enc (w_1.a : List Int))]))) (.ref (.bx 1) 0 [0] (Enc.enc (w_1.a : List Int))) h1 rfl rfl ?_
  refine g_v1 (t := 3) (u := (.ref (.bx 1) 0 [0] (Enc.enc (w_1.a : List Int)))) (Enc.enc (w_1.a : List Int)) rfl rfl rfl ?_
  refine g_v (.int .i64 (w_1.a.length : Int)) (ev_len (xs := w_1.a) rfl) ?_
  refine g_v1 (t := 5) (u := (.int .i64 (w_1.a.length : Int))) (.int .i64 (w_1.a.length : Int)) rfl rfl rfl ?_
  refine g_end ?_
  refine e_end ?_
  refine renew [(2, (.int .i64 (w_1.a.length : Int)))] rfl ?_
  rintro s h2
  refine .nsq ?_
  refine .ret ?_
  have hr := Option.some.inj h
  subst hr
  exact rrA (res_tmp h2) rfl
end
def e139 (F : Nat) : Ent := ⟨139, dn1 (i_net_size F) (fun (r : Int) => (Enc.enc (r : Int))), 0, false⟩
theorem o139 {D : Den} {σ : Sig} {F : Nat} (hF : Fits2 Try.prog D σ) (H : H139 D σ F) : (e139 F).Ok Try.prog := by
  refine ⟨fun args r h => ?_, ⟨Try.f139, Try.func139, rfl, rfl⟩⟩
  obtain ⟨x0, y, rfl, hy, rfl⟩ := dn1_open h
  exact contract_run hF (by kernel_rfl) Try.func139 rfl c139 (show 1 ≤ Try.f139.ntmps by decide) (t139 H x0 _ rfl hy)
end Go.Zq
