/- Functions of the program as typed functions, and that the machine runs as they say (part 2). No further condition. -/
import Derived.Test.YtodihaaheneikaaK2
import Derived.Test.YtodihaaheneikaaProg
import Derived.Test.YtodihaaheneikaaChecked
import Derived.KernelRfl
import Derived.Test.YtodihaaheneikaaG1
set_option linter.unusedVariables false
set_option linter.unusedSimpArgs false
/- Functions of the program, as typed functions, and that the machine runs as they say. -/
namespace Go.Zq
open Go.Proofs
/- loop.example/g01109/spec.l2Reach -/
def A121_2 : AC := (AC.cond (O.t 16) AC.skip (AC.exit 0))
def A121_6 : AC := (AC.cond (O.t 22) AC.skip (AC.exit 2))
def A121_10 : AC := (AC.cond (O.t 37) AC.skip (AC.exit 4))
def A121_12 : AC := (AC.cond (O.t 49) (AC.reg [.frz 7] [(I.mk (some 50) none false (X.v (A.mov (O.t 7)))), (I.mk (some 51) none false (X.v (A.mov (O.t 1)))), (I.mk (some 52) none false (X.v (A.mov (O.t 9)))), (I.mk (some 53) none false (X.v (A.idx (O.t 51) (O.t 52) 1))), (I.mk (some 54) none false (X.v (A.load Sh.s (O.t 53)))), (I.mk (some 55) none false (X.call (O.k (V.fn 110 [] [])) [(O.t 50), (O.t 54)])), (I.mk (some 7) none false (X.v (A.mov (O.t 55))))] []) AC.skip)
def A121_13 : AC := (AC.reg [] [(I.mk (some 38) none false (X.v (A.mov (O.t 10)))), (I.mk (some 39) none false (X.v (A.bin BinOp.add (O.t 38) (O.k (V.int IntKind.i64 (Int.ofNat 1)))))), (I.mk (some 10) none false (X.v (A.mov (O.t 39))))] [])
def A121_11 : AC := (AC.seq (AC.block 5 (AC.seq (AC.reg [] [(I.mk (some 40) none false (X.v (A.load (Sh.ag [Sh.s, Sh.p]) (O.t 3)))), (I.mk (some 41) none false (X.v (A.mov (O.t 7)))), (I.mk (some 42) none false (X.v (A.mov (O.t 10)))), (I.mk (some 43) none false (X.v (A.idx (O.t 41) (O.t 42) 1))), (I.mk (some 44) none false (X.v (A.load Sh.s (O.t 43)))), (I.mk (some 45) none false (X.v (A.mov (O.t 1)))), (I.mk (some 46) none false (X.v (A.mov (O.t 9)))), (I.mk (some 47) none false (X.v (A.idx (O.t 45) (O.t 46) 1))), (I.mk (some 48) none false (X.v (A.load Sh.s (O.t 47)))), (I.mk (some 49) none false (X.call (O.k (V.fn 122 [] [])) [(O.t 40), (O.t 44), (O.t 48)]))] []) A121_12)) A121_13)
def A121_9 : AC := (AC.seq (AC.seq (AC.reg [] [(I.mk (some 25) none false (X.v (A.mov (O.t 10)))), (I.mk (some 26) none false (X.v (A.mov (O.t 7)))), (I.mk (some 27) none false (X.v (A.len (O.t 26)))), (I.mk (some 28) none false (X.v (A.bin BinOp.lss (O.t 25) (O.t 27)))), (I.mk (some 29) none false (X.v (A.mov (O.t 28)))), (I.mk (some 30) (some (29, true)) false (X.v (A.mov (O.t 7)))), (I.mk (some 31) (some (29, true)) false (X.v (A.mov (O.t 1)))), (I.mk (some 32) (some (29, true)) false (X.v (A.mov (O.t 9)))), (I.mk (some 33) (some (29, true)) false (X.v (A.idx (O.t 31) (O.t 32) 1))), (I.mk (some 34) (some (29, true)) false (X.v (A.load Sh.s (O.t 33)))), (I.mk (some 35) (some (29, true)) false (X.call (O.k (V.fn 45 [] [])) [(O.t 30), (O.t 34)])), (I.mk (some 36) (some (29, true)) false (X.v (A.un UnOp.not (O.t 35)))), (I.mk (some 37) none false (X.v (A.pick (O.t 29) (O.t 36) (O.k (V.bool false)))))] []) A121_10) A121_11)
def A121_8 : AC := (AC.block 4 (AC.loop A121_9))
def A121_14 : AC := (AC.reg [] [(I.mk (some 23) none false (X.v (A.mov (O.t 9)))), (I.mk (some 24) none false (X.v (A.bin BinOp.add (O.t 23) (O.k (V.int IntKind.i64 (Int.ofNat 1)))))), (I.mk (some 9) none false (X.v (A.mov (O.t 24))))] [])
def A121_7 : AC := (AC.seq (AC.block 3 (AC.seq (AC.reg [] [(I.mk (some 10) none false (X.v (A.mov (O.k (V.int IntKind.i64 (Int.ofNat 0))))))] []) A121_8)) A121_14)
def A121_5 : AC := (AC.seq (AC.seq (AC.reg [] [(I.mk (some 19) none false (X.v (A.mov (O.t 9)))), (I.mk (some 20) none false (X.v (A.mov (O.t 1)))), (I.mk (some 21) none false (X.v (A.len (O.t 20)))), (I.mk (some 22) none false (X.v (A.bin BinOp.lss (O.t 19) (O.t 21))))] []) A121_6) A121_7)
def A121_4 : AC := (AC.block 2 (AC.loop A121_5))
def A121_15 : AC := (AC.reg [] [(I.mk (some 17) none false (X.v (A.mov (O.t 8)))), (I.mk (some 18) none false (X.v (A.bin BinOp.add (O.t 17) (O.k (V.int IntKind.i64 (Int.ofNat 1)))))), (I.mk (some 8) none false (X.v (A.mov (O.t 18))))] [])
def A121_3 : AC := (AC.seq (AC.block 1 (AC.seq (AC.reg [] [(I.mk (some 9) none false (X.v (A.mov (O.k (V.int IntKind.i64 (Int.ofNat 0))))))] []) A121_4)) A121_15)
def A121_1 : AC := (AC.seq (AC.seq (AC.reg [] [(I.mk (some 13) none false (X.v (A.mov (O.t 8)))), (I.mk (some 14) none false (X.v (A.mov (O.t 1)))), (I.mk (some 15) none false (X.v (A.len (O.t 14)))), (I.mk (some 16) none false (X.v (A.bin BinOp.lss (O.t 13) (O.t 15))))] []) A121_2) A121_3)
def A121_16 : AC := (AC.seq (AC.reg [] [(I.mk (some 56) none false (X.v (A.mov (O.t 7)))), (I.mk (some 6) none false (X.v (A.mov (O.t 56))))] []) AC.ret)
def A121_19 : AC := (AC.block 0 (AC.loop A121_1))
def A121_18 : AC := (AC.seq (AC.seq (AC.reg [] [(I.mk (some 8) none false (X.v (A.mov (O.k (V.int IntKind.i64 (Int.ofNat 0))))))] []) A121_19) A121_16)
def A121_17 : AC := (AC.seq (AC.reg [.clr [12]] [(I.mk (some 11) none false (X.v (A.mov (O.t 2)))), (I.mk (some 12) none false (X.lit (V.int IntKind.i64 (Int.ofNat 0)) 1 [(0, 0, (O.t 11))])), (I.mk (some 7) none false (X.v (A.mov (O.t 12))))] [.home 12 7, .frz 7]) A121_18)
def A121 : AC := (AC.seq (AC.reg [.clr [3]] [(I.mk (some 3) none false (X.box (O.t 0))), (I.mk (some 6) none false (X.v (A.mov (O.k (V.sl Tok.nl Sh.s 0 [])))))] []) A121_17)
def an121 : List An := [{ id := 0, pre := [.clr [3]], ep := [], lin := [], sp := [] }, { id := 1, pre := [.clr [12]], ep := [.home 12 7, .frz 7], lin := [], sp := [] }, { id := 12, pre := [.frz 7], ep := [], lin := [], sp := [] }]
theorem c121 : cC Try.prog Try.f121.ntmps an121 (Try.f121.body.getD .skip) = some A121 := by kernel_rfl
structure H121 (D : Den) (σ : Sig) (F : Nat) : Prop where
  c45 : ∀ (x0 : (List Int)) (x1 : Int) r, s_l1Has F x0 x1 = some r → D 45 [Enc.enc x0, Enc.enc x1] = some (Enc.enc (r : Bool))
  g45 : σ 45 = some (0, false)
  c122 : ∀ (x0 : (Int × (List (Int × Int)))) (x1 : Int) (x2 : Int) r, s_l2Near F x0 x1 x2 = some r → D 122 [Enc.enc x0, Enc.enc x1, Enc.enc x2] = some (Enc.enc (r : Bool))
  g122 : σ 122 = some (0, false)
  c110 : ∀ (x0 : (List Int)) (x1 : Int) r, s_l1Put F x0 x1 = some r → D 110 [Enc.enc x0, Enc.enc x1] = some (Enc.enc (r : (List Int)))
  g110 : σ 110 = some (0, true)
abbrev R121 (r : (List Int)) : (Nat → V) → Prop := RR Try.prog [.tmp 6] 0 true (Enc.enc (r : (List Int)))
section
variable {D : Den} {σ : Sig} {F : Nat} {r : (List Int)}
def s_l2Reach_j1 (F : Nat) (set_2 : (List Int)) (g_1 : (Int × (List (Int × Int)))) (round_130 : Int) (i_298 : Int) (k_354 : Int) (c1 : (List Int) → Int → Option (List Int)) (c10 : (List Int) → Int → Option (List Int)) (c13 : (List Int) → Int → Option (List Int)) (out_376 : (List Int)) : Option (List Int) :=
  c13 out_376 (w64 (k_354 + 1))
theorem t_f121_j1 (H : H121 D σ F) (set_2 : (List Int)) (g_1 : (Int × (List (Int × Int)))) (round_130 : Int) (i_298 : Int) (k_354 : Int) (c1 : (List Int) → Int → Option (List Int)) (Hc1 : ∀ (out_129 : (List Int)) (round_130 : Int) (s : Nat → V), Facts [(1, (Enc.enc (set_2 : List Int))), (3, (.ref (.bx 3) 0 [] (.agg [(.int .i64 g_1.1), (Enc.enc (g_1.2 : List (Int × Int)))]))), (6, (.sl .nl (Enc.shp Int) 0 [])), (7, (Enc.enc (out_129 : List Int))), (8, (.int .i64 round_130))] s → c1 out_129 round_130 = some r → Run D σ (R121 r) (.run A121_1 [.lp A121_1, .bk 0, .sq A121_16]) s) (c10 : (List Int) → Int → Option (List Int)) (Hc10 : ∀ (out_297 : (List Int)) (i_298 : Int) (s : Nat → V), Facts [(1, (Enc.enc (set_2 : List Int))), (3, (.ref (.bx 3) 0 [] (.agg [(.int .i64 g_1.1), (Enc.enc (g_1.2 : List (Int × Int)))]))), (6, (.sl .nl (Enc.shp Int) 0 [])), (7, (Enc.enc (out_297 : List Int))), (8, (.int .i64 round_130)), (9, (.int .i64 i_298))] s → c10 out_297 i_298 = some r → Run D σ (R121 r) (.run A121_5 [.lp A121_5, .bk 2, .bk 1, .sq A121_15, .lp A121_1, .bk 0, .sq A121_16]) s) (c13 : (List Int) → Int → Option (List Int)) (Hc13 : ∀ (out_353 : (List Int)) (k_354 : Int) (s : Nat → V), Facts [(1, (Enc.enc (set_2 : List Int))), (3, (.ref (.bx 3) 0 [] (.agg [(.int .i64 g_1.1), (Enc.enc (g_1.2 : List (Int × Int)))]))), (6, (.sl .nl (Enc.shp Int) 0 [])), (7, (Enc.enc (out_353 : List Int))), (8, (.int .i64 round_130)), (9, (.int .i64 i_298)), (10, (.int .i64 k_354))] s → c13 out_353 k_354 = some r → Run D σ (R121 r) (.run A121_9 [.lp A121_9, .bk 4, .bk 3, .sq A121_14, .lp A121_5, .bk 2, .bk 1, .sq A121_15, .lp A121_1, .bk 0, .sq A121_16]) s) (out_376 : (List Int)) (s : Nat → V) (hs : Facts [(1, (Enc.enc (set_2 : List Int))), (3, (.ref (.bx 3) 0 [] (.agg [(.int .i64 g_1.1), (Enc.enc (g_1.2 : List (Int × Int)))]))), (6, (.sl .nl (Enc.shp Int) 0 [])), (7, (Enc.enc (out_376 : List Int))), (8, (.int .i64 round_130)), (9, (.int .i64 i_298)), (10, (.int .i64 k_354))] s) (h : s_l2Reach_j1 F set_2 g_1 round_130 i_298 k_354 c1 c10 c13 out_376 = some r) : Run D σ (R121 r) (.nrm [.bk 5, .sq A121_13, .lp A121_9, .bk 4, .bk 3, .sq A121_14, .lp A121_5, .bk 2, .bk 1, .sq A121_15, .lp A121_1, .bk 0, .sq A121_16]) s := by
  unfold s_l2Reach_j1 at h
  obtain ⟨h1, h3, h6, h7, h8, h9, h10⟩ := hs
  refine .nbk ?_
  refine .nsq ?_
  refine run_reg ?_
  refine e_end ?_
  refine g_v1 (t := 10) (u := (.int .i64 k_354)) (.int .i64 k_354) h10 rfl rfl ?_
  refine g_v1 (t := 38) (u := (.int .i64 k_354)) (.int .i64 (w64 (k_354 + 1))) rfl rfl rfl ?_
  refine g_v1 (t := 39) (u := (.int .i64 (w64 (k_354 + 1)))) (.int .i64 (w64 (k_354 + 1))) rfl rfl rfl ?_
  refine g_end ?_
  refine e_end ?_
  refine renew [(1, (Enc.enc (set_2 : List Int))), (3, (.ref (.bx 3) 0 [] (.agg [(.int .i64 g_1.1), (Enc.enc (g_1.2 : List (Int × Int)))]))), (6, (.sl .nl (Enc.shp Int) 0 [])), (7, (Enc.enc (out_376 : List Int))), (8, (.int .i64 round_130)), (9, (.int .i64 i_298)), (10, (.int .i64 (w64 (k_354 + 1))))] ⟨h1, h3, h6, h7, h8, h9, rfl⟩ ?_
  rintro s ⟨h1, h3, h6, h7, h8, h9, h10⟩
  refine .nlp ?_
  exact Hc13 out_376 (w64 (k_354 + 1)) _ ⟨h1, h3, h6, h7, h8, h9, h10⟩ h
def s_l2Reach_j2 (F : Nat) (set_2 : (List Int)) (g_1 : (Int × (List (Int × Int)))) (out_353 : (List Int)) (round_130 : Int) (i_298 : Int) (k_354 : Int) (c1 : (List Int) → Int → Option (List Int)) (c10 : (List Int) → Int → Option (List Int)) (c13 : (List Int) → Int → Option (List Int)) (t37_370 : Bool) : Option (List Int) :=
  bif t37_370 then
    (idx out_353 k_354).bind fun e_371 =>
    (idx set_2 i_298).bind fun e_372 =>
    (s_l2Near F g_1 e_371 e_372).bind fun r_373 =>
    bif r_373 then
      (idx set_2 i_298).bind fun e_377 =>
      (s_l1Put F out_353 e_377).bind fun r_378 =>
      s_l2Reach_j1 F set_2 g_1 round_130 i_298 k_354 c1 c10 c13 r_378
    else
      s_l2Reach_j1 F set_2 g_1 round_130 i_298 k_354 c1 c10 c13 out_353
  else
    c10 out_353 (w64 (i_298 + 1))
theorem t_f121_j2 (H : H121 D σ F) (set_2 : (List Int)) (g_1 : (Int × (List (Int × Int)))) (out_353 : (List Int)) (round_130 : Int) (i_298 : Int) (k_354 : Int) (c1 : (List Int) → Int → Option (List Int)) (Hc1 : ∀ (out_129 : (List Int)) (round_130 : Int) (s : Nat → V), Facts [(1, (Enc.enc (set_2 : List Int))), (3, (.ref (.bx 3) 0 [] (.agg [(.int .i64 g_1.1), (Enc.enc (g_1.2 : List (Int × Int)))]))), (6, (.sl .nl (Enc.shp Int) 0 [])), (7, (Enc.enc (out_129 : List Int))), (8, (.int .i64 round_130))] s → c1 out_129 round_130 = some r → Run D σ (R121 r) (.run A121_1 [.lp A121_1, .bk 0, .sq A121_16]) s) (c10 : (List Int) → Int → Option (List Int)) (Hc10 : ∀ (out_297 : (List Int)) (i_298 : Int) (s : Nat → V), Facts [(1, (Enc.enc (set_2 : List Int))), (3, (.ref (.bx 3) 0 [] (.agg [(.int .i64 g_1.1), (Enc.enc (g_1.2 : List (Int × Int)))]))), (6, (.sl .nl (Enc.shp Int) 0 [])), (7, (Enc.enc (out_297 : List Int))), (8, (.int .i64 round_130)), (9, (.int .i64 i_298))] s → c10 out_297 i_298 = some r → Run D σ (R121 r) (.run A121_5 [.lp A121_5, .bk 2, .bk 1, .sq A121_15, .lp A121_1, .bk 0, .sq A121_16]) s) (c13 : (List Int) → Int → Option (List Int)) (Hc13 : ∀ (out_353 : (List Int)) (k_354 : Int) (s : Nat → V), Facts [(1, (Enc.enc (set_2 : List Int))), (3, (.ref (.bx 3) 0 [] (.agg [(.int .i64 g_1.1), (Enc.enc (g_1.2 : List (Int × Int)))]))), (6, (.sl .nl (Enc.shp Int) 0 [])), (7, (Enc.enc (out_353 : List Int))), (8, (.int .i64 round_130)), (9, (.int .i64 i_298)), (10, (.int .i64 k_354))] s → c13 out_353 k_354 = some r → Run D σ (R121 r) (.run A121_9 [.lp A121_9, .bk 4, .bk 3, .sq A121_14, .lp A121_5, .bk 2, .bk 1, .sq A121_15, .lp A121_1, .bk 0, .sq A121_16]) s) (t37_370 : Bool) (s : Nat → V) (hs : Facts [(1, (Enc.enc (set_2 : List Int))), (3, (.ref (.bx 3) 0 [] (.agg [(.int .i64 g_1.1), (Enc.enc (g_1.2 : List (Int × Int)))]))), (6, (.sl .nl (Enc.shp Int) 0 [])), (7, (Enc.enc (out_353 : List Int))), (8, (.int .i64 round_130)), (9, (.int .i64 i_298)), (10, (.int .i64 k_354)), (37, (.bool t37_370))] s) (h : s_l2Reach_j2 F set_2 g_1 out_353 round_130 i_298 k_354 c1 c10 c13 t37_370 = some r) : Run D σ (R121 r) (.nrm [.sq A121_10, .sq A121_11, .lp A121_9, .bk 4, .bk 3, .sq A121_14, .lp A121_5, .bk 2, .bk 1, .sq A121_15, .lp A121_1, .bk 0, .sq A121_16]) s := by
  unfold s_l2Reach_j2 at h
  obtain ⟨h1, h3, h6, h7, h8, h9, h10, h37⟩ := hs
  refine .nsq ?_
  refine run_cond (t := t37_370) h37 h (fun h => ?_) (fun h => ?_)
  · refine .skip ?_
    refine .nsq ?_
    refine .seq ?_
    refine .block ?_
    refine .seq ?_
    refine run_reg ?_
    refine e_end ?_
    refine g_v1 (t := 3) (u := (.ref (.bx 3) 0 [] (.agg [(.int .i64 g_1.1), (Enc.enc (g_1.2 : List (Int × Int)))]))) (.agg [(.int .i64 g_1.1), (Enc.enc (g_1.2 : List (Int × Int)))]) h3 rfl rfl ?_
    refine g_v1 (t := 7) (u := (Enc.enc (out_353 : List Int))) (Enc.enc (out_353 : List Int)) h7 rfl rfl ?_
    refine g_v1 (t := 10) (u := (.int .i64 k_354)) (.int .i64 k_354) h10 rfl rfl ?_
    obtain ⟨e_371, E_e_371, h⟩ := bind_some h
    refine g_v (.ref .sh 0 [] (.int .i64 e_371)) (ev_idx (t := .sh) (lo := 0) (xs := out_353) rfl rfl E_e_371 rfl rfl) ?_
    refine g_v1 (t := 43) (u := (.ref .sh 0 [] (.int .i64 e_371))) (.int .i64 e_371) rfl rfl rfl ?_
    refine g_v1 (t := 1) (u := (Enc.enc (set_2 : List Int))) (Enc.enc (set_2 : List Int)) h1 rfl rfl ?_
    refine g_v1 (t := 9) (u := (.int .i64 i_298)) (.int .i64 i_298) h9 rfl rfl ?_
    obtain ⟨e_372, E_e_372, h⟩ := bind_some h
    refine g_v (.ref .sh 0 [] (.int .i64 e_372)) (ev_idx (t := .sh) (lo := 0) (xs := set_2) rfl rfl E_e_372 rfl rfl) ?_
    refine g_v1 (t := 47) (u := (.ref .sh 0 [] (.int .i64 e_372))) (.int .i64 e_372) rfl rfl rfl ?_
    obtain ⟨r_373, E_r_373, h⟩ := bind_some h
    refine g_call (m := 0) (al := false) (r := (Enc.enc (r_373 : Bool))) [Enc.enc (g_1 : (Int × (List (Int × Int)))), Enc.enc (e_371 : Int), Enc.enc (e_372 : Int)] (ta_cons (v := (.agg [(.int .i64 g_1.1), (Enc.enc (g_1.2 : List (Int × Int)))])) rfl rfl (Enc.erase_enc (g_1 : (Int × (List (Int × Int))))) (ta_cons (v := (.int .i64 e_371)) rfl rfl rfl (ta_cons (v := (.int .i64 e_372)) rfl rfl rfl ta_nil))) (H.c122 _ _ _ _ E_r_373) H.g122 rfl rfl rfl rfl ?_
    refine g_end ?_
    refine e_end ?_
    refine renew [(1, (Enc.enc (set_2 : List Int))), (3, (.ref (.bx 3) 0 [] (.agg [(.int .i64 g_1.1), (Enc.enc (g_1.2 : List (Int × Int)))]))), (6, (.sl .nl (Enc.shp Int) 0 [])), (7, (Enc.enc (out_353 : List Int))), (8, (.int .i64 round_130)), (9, (.int .i64 i_298)), (10, (.int .i64 k_354)), (49, (.bool r_373))] ⟨h1, h3, h6, h7, h8, h9, h10, rfl⟩ ?_
    rintro s ⟨h1, h3, h6, h7, h8, h9, h10, h49⟩
    refine .nsq ?_
    refine run_cond (t := r_373) h49 h (fun h => ?_) (fun h => ?_)
    · refine run_reg ?_
      refine e_frz (x := 7) (v := (Enc.enc (out_353 : List Int))) [] (by exact h7) (Enc.toks_enc (out_353 : List Int)) (fun s_58 hg_58 => ?_)
      refine e_end ?_
      refine g_v1 (t := 7) (u := (Enc.enc (out_353 : List Int))) (Enc.enc (out_353 : List Int)) (hg_58 7 (Enc.enc (out_353 : List Int)) (Enc.enc (out_353 : List Int)) h7 (frz_none _)) rfl rfl ?_
      refine g_v1 (t := 1) (u := (Enc.enc (set_2 : List Int))) (Enc.enc (set_2 : List Int)) (hg_58 1 (Enc.enc (set_2 : List Int)) (Enc.enc (set_2 : List Int)) h1 (frz_none _)) rfl rfl ?_
      refine g_v1 (t := 9) (u := (.int .i64 i_298)) (.int .i64 i_298) (hg_58 9 (.int .i64 i_298) (.int .i64 i_298) h9 (frz_none _)) rfl rfl ?_
      obtain ⟨e_377, E_e_377, h⟩ := bind_some h
      refine g_v (.ref .sh 0 [] (.int .i64 e_377)) (ev_idx (t := .sh) (lo := 0) (xs := set_2) rfl rfl E_e_377 rfl rfl) ?_
      refine g_v1 (t := 53) (u := (.ref .sh 0 [] (.int .i64 e_377))) (.int .i64 e_377) rfl rfl rfl ?_
      obtain ⟨r_378, E_r_378, h⟩ := bind_some h
      refine g_call (m := 0) (al := true) (r := (Enc.enc (r_378 : (List Int)))) [Enc.enc (out_353 : (List Int)), Enc.enc (e_377 : Int)] (ta_cons (v := (Enc.enc (out_353 : List Int))) rfl rfl (Enc.erase_enc (out_353 : (List Int))) (ta_cons (v := (.int .i64 e_377)) rfl rfl rfl ta_nil)) (H.c110 _ _ _ E_r_378) H.g110 (hal_of (ht_cons (v := (Enc.enc (out_353 : List Int))) rfl rfl rfl (ht_cons (v := (.int .i64 e_377)) rfl rfl rfl ht_nil))) rfl rfl rfl ?_
      refine g_v1 (t := 55) (u := (Enc.enc (r_378 : List Int))) (Enc.enc (r_378 : List Int)) rfl rfl rfl ?_
      refine g_end ?_
      refine e_end ?_
      refine renew [(1, (Enc.enc (set_2 : List Int))), (3, (.ref (.bx 3) 0 [] (.agg [(.int .i64 g_1.1), (Enc.enc (g_1.2 : List (Int × Int)))]))), (6, (.sl .nl (Enc.shp Int) 0 [])), (7, (Enc.enc (r_378 : List Int))), (8, (.int .i64 round_130)), (9, (.int .i64 i_298)), (10, (.int .i64 k_354))] ⟨(hg_58 1 (Enc.enc (set_2 : List Int)) (Enc.enc (set_2 : List Int)) h1 (frz_none _)), (hg_58 3 (.ref (.bx 3) 0 [] (.agg [(.int .i64 g_1.1), (Enc.enc (g_1.2 : List (Int × Int)))])) (.ref (.bx 3) 0 [] (.agg [(.int .i64 g_1.1), (Enc.enc (g_1.2 : List (Int × Int)))])) h3 (frz_none _)), (hg_58 6 (.sl .nl (Enc.shp Int) 0 []) (.sl .nl (Enc.shp Int) 0 []) h6 (frz_none _)), rfl, (hg_58 8 (.int .i64 round_130) (.int .i64 round_130) h8 (frz_none _)), (hg_58 9 (.int .i64 i_298) (.int .i64 i_298) h9 (frz_none _)), (hg_58 10 (.int .i64 k_354) (.int .i64 k_354) h10 (frz_none _))⟩ ?_
      rintro s ⟨h1, h3, h6, h7, h8, h9, h10⟩
      exact t_f121_j1 H set_2 g_1 round_130 i_298 k_354 c1 Hc1 c10 Hc10 c13 Hc13 r_378 _ ⟨h1, h3, h6, h7, h8, h9, h10⟩ h
    · refine .skip ?_
      exact t_f121_j1 H set_2 g_1 round_130 i_298 k_354 c1 Hc1 c10 Hc10 c13 Hc13 out_353 _ ⟨h1, h3, h6, h7, h8, h9, h10⟩ h
  · refine .exit ?_
    refine .esq ?_
    refine .elp ?_
    refine .ebk ?_
    refine .nbk ?_
    refine .nsq ?_
    refine run_reg ?_
    refine e_end ?_
    refine g_v1 (t := 9) (u := (.int .i64 i_298)) (.int .i64 i_298) h9 rfl rfl ?_
    refine g_v1 (t := 23) (u := (.int .i64 i_298)) (.int .i64 (w64 (i_298 + 1))) rfl rfl rfl ?_
    refine g_v1 (t := 24) (u := (.int .i64 (w64 (i_298 + 1)))) (.int .i64 (w64 (i_298 + 1))) rfl rfl rfl ?_
    refine g_end ?_
    refine e_end ?_
    refine renew [(1, (Enc.enc (set_2 : List Int))), (3, (.ref (.bx 3) 0 [] (.agg [(.int .i64 g_1.1), (Enc.enc (g_1.2 : List (Int × Int)))]))), (6, (.sl .nl (Enc.shp Int) 0 [])), (7, (Enc.enc (out_353 : List Int))), (8, (.int .i64 round_130)), (9, (.int .i64 (w64 (i_298 + 1))))] ⟨h1, h3, h6, h7, h8, rfl⟩ ?_
    rintro s ⟨h1, h3, h6, h7, h8, h9⟩
    refine .nlp ?_
    exact Hc10 out_353 (w64 (i_298 + 1)) _ ⟨h1, h3, h6, h7, h8, h9⟩ h
def s_l2Reach_l1 (F : Nat) (set_2 : (List Int)) (g_1 : (Int × (List (Int × Int)))) (round_130 : Int) (i_298 : Int) (c1 : (List Int) → Int → Option (List Int)) (c10 : (List Int) → Int → Option (List Int)) : Nat → (List Int) → Int → Option (List Int)
  | 0, _, _ => none
  | k + 1, out_353, k_354 =>
    bif decide (k_354 < (out_353.length : Int)) then
      (idx set_2 i_298).bind fun e_379 =>
      (s_l1Has F out_353 e_379).bind fun r_380 =>
      s_l2Reach_j2 F set_2 g_1 out_353 round_130 i_298 k_354 c1 c10 (s_l2Reach_l1 F set_2 g_1 round_130 i_298 c1 c10 k) (!r_380)
    else
      s_l2Reach_j2 F set_2 g_1 out_353 round_130 i_298 k_354 c1 c10 (s_l2Reach_l1 F set_2 g_1 round_130 i_298 c1 c10 k) false
theorem t_f121_l1 (H : H121 D σ F) (set_2 : (List Int)) (g_1 : (Int × (List (Int × Int)))) (round_130 : Int) (i_298 : Int) (c1 : (List Int) → Int → Option (List Int)) (Hc1 : ∀ (out_129 : (List Int)) (round_130 : Int) (s : Nat → V), Facts [(1, (Enc.enc (set_2 : List Int))), (3, (.ref (.bx 3) 0 [] (.agg [(.int .i64 g_1.1), (Enc.enc (g_1.2 : List (Int × Int)))]))), (6, (.sl .nl (Enc.shp Int) 0 [])), (7, (Enc.enc (out_129 : List Int))), (8, (.int .i64 round_130))] s → c1 out_129 round_130 = some r → Run D σ (R121 r) (.run A121_1 [.lp A121_1, .bk 0, .sq A121_16]) s) (c10 : (List Int) → Int → Option (List Int)) (Hc10 : ∀ (out_297 : (List Int)) (i_298 : Int) (s : Nat → V), Facts [(1, (Enc.enc (set_2 : List Int))), (3, (.ref (.bx 3) 0 [] (.agg [(.int .i64 g_1.1), (Enc.enc (g_1.2 : List (Int × Int)))]))), (6, (.sl .nl (Enc.shp Int) 0 [])), (7, (Enc.enc (out_297 : List Int))), (8, (.int .i64 round_130)), (9, (.int .i64 i_298))] s → c10 out_297 i_298 = some r → Run D σ (R121 r) (.run A121_5 [.lp A121_5, .bk 2, .bk 1, .sq A121_15, .lp A121_1, .bk 0, .sq A121_16]) s) : ∀ (k : Nat) (out_353 : (List Int)) (k_354 : Int) (s : Nat → V), Facts [(1, (Enc.enc (set_2 : List Int))), (3, (.ref (.bx 3) 0 [] (.agg [(.int .i64 g_1.1), (Enc.enc (g_1.2 : List (Int × Int)))]))), (6, (.sl .nl (Enc.shp Int) 0 [])), (7, (Enc.enc (out_353 : List Int))), (8, (.int .i64 round_130)), (9, (.int .i64 i_298)), (10, (.int .i64 k_354))] s → s_l2Reach_l1 F set_2 g_1 round_130 i_298 c1 c10 k out_353 k_354 = some r → Run D σ (R121 r) (.run A121_9 [.lp A121_9, .bk 4, .bk 3, .sq A121_14, .lp A121_5, .bk 2, .bk 1, .sq A121_15, .lp A121_1, .bk 0, .sq A121_16]) s := by
  intro k
  induction k with
  | zero => intro out_353 k_354 s _ h; exact nomatch (h : (none : Option _) = some r)
  | succ k ih =>
    intro out_353 k_354 s hs h
    rw [s_l2Reach_l1] at h
    obtain ⟨h1, h3, h6, h7, h8, h9, h10⟩ := hs
    refine .seq ?_
    refine .seq ?_
    refine run_reg ?_
    refine e_end ?_
    refine g_v1 (t := 10) (u := (.int .i64 k_354)) (.int .i64 k_354) h10 rfl rfl ?_
    refine g_v1 (t := 7) (u := (Enc.enc (out_353 : List Int))) (Enc.enc (out_353 : List Int)) h7 rfl rfl ?_
    refine g_v (.int .i64 (out_353.length : Int)) (ev_len (xs := out_353) rfl) ?_
    refine g_v2 (t1 := 25) (t2 := 27) (u1 := (.int .i64 k_354)) (u2 := (.int .i64 (out_353.length : Int))) (.bool (decide (k_354 < (out_353.length : Int)))) rfl rfl rfl rfl ?_
    refine g_v1 (t := 28) (u := (.bool (decide (k_354 < (out_353.length : Int))))) (.bool (decide (k_354 < (out_353.length : Int)))) rfl rfl rfl ?_
    refine split_on (c := decide (k_354 < (out_353.length : Int))) h (fun hg5 h => ?_) (fun hg5 h => ?_)
    · refine g_yes (Eq.trans (b := .bool (decide (k_354 < (out_353.length : Int)))) rfl (congrArg V.bool hg5)) (g_v1 (t := 7) (u := (Enc.enc (out_353 : List Int))) (Enc.enc (out_353 : List Int)) h7 rfl rfl ?_)
      refine g_yes (Eq.trans (b := .bool (decide (k_354 < (out_353.length : Int)))) rfl (congrArg V.bool hg5)) (g_v1 (t := 1) (u := (Enc.enc (set_2 : List Int))) (Enc.enc (set_2 : List Int)) h1 rfl rfl ?_)
      refine g_yes (Eq.trans (b := .bool (decide (k_354 < (out_353.length : Int)))) rfl (congrArg V.bool hg5)) (g_v1 (t := 9) (u := (.int .i64 i_298)) (.int .i64 i_298) h9 rfl rfl ?_)
      obtain ⟨e_379, E_e_379, h⟩ := bind_some h
      refine g_yes (Eq.trans (b := .bool (decide (k_354 < (out_353.length : Int)))) rfl (congrArg V.bool hg5)) (g_v (.ref .sh 0 [] (.int .i64 e_379)) (ev_idx (t := .sh) (lo := 0) (xs := set_2) rfl rfl E_e_379 rfl rfl) ?_)
      refine g_yes (Eq.trans (b := .bool (decide (k_354 < (out_353.length : Int)))) rfl (congrArg V.bool hg5)) (g_v1 (t := 33) (u := (.ref .sh 0 [] (.int .i64 e_379))) (.int .i64 e_379) rfl rfl rfl ?_)
      obtain ⟨r_380, E_r_380, h⟩ := bind_some h
      refine g_yes (Eq.trans (b := .bool (decide (k_354 < (out_353.length : Int)))) rfl (congrArg V.bool hg5)) (g_call (m := 0) (al := false) (r := (Enc.enc (r_380 : Bool))) [Enc.enc (out_353 : (List Int)), Enc.enc (e_379 : Int)] (ta_cons (v := (Enc.enc (out_353 : List Int))) rfl rfl (Enc.erase_enc (out_353 : (List Int))) (ta_cons (v := (.int .i64 e_379)) rfl rfl rfl ta_nil)) (H.c45 _ _ _ E_r_380) H.g45 rfl rfl rfl rfl ?_)
      refine g_yes (Eq.trans (b := .bool (decide (k_354 < (out_353.length : Int)))) rfl (congrArg V.bool hg5)) (g_v1 (t := 35) (u := (.bool r_380)) (.bool (!r_380)) rfl rfl rfl ?_)
      refine g_v2 (t1 := 29) (t2 := 36) (u1 := (.bool true)) (u2 := (.bool (!r_380))) (.bool (!r_380)) (Eq.trans (b := .bool (decide (k_354 < (out_353.length : Int)))) rfl (congrArg V.bool hg5)) rfl rfl rfl ?_
      refine g_end ?_
      refine e_end ?_
      refine renew [(1, (Enc.enc (set_2 : List Int))), (3, (.ref (.bx 3) 0 [] (.agg [(.int .i64 g_1.1), (Enc.enc (g_1.2 : List (Int × Int)))]))), (6, (.sl .nl (Enc.shp Int) 0 [])), (7, (Enc.enc (out_353 : List Int))), (8, (.int .i64 round_130)), (9, (.int .i64 i_298)), (10, (.int .i64 k_354)), (37, (.bool (!r_380)))] ⟨h1, h3, h6, h7, h8, h9, h10, rfl⟩ ?_
      rintro s ⟨h1, h3, h6, h7, h8, h9, h10, h37⟩
      exact t_f121_j2 H set_2 g_1 out_353 round_130 i_298 k_354 c1 Hc1 c10 Hc10 (s_l2Reach_l1 F set_2 g_1 round_130 i_298 c1 c10 k) ih (!r_380) _ ⟨h1, h3, h6, h7, h8, h9, h10, h37⟩ h
    · refine g_no (Eq.trans (b := .bool (decide (k_354 < (out_353.length : Int)))) rfl (congrArg V.bool hg5)) ?_
      refine g_no (Eq.trans (b := .bool (decide (k_354 < (out_353.length : Int)))) rfl (congrArg V.bool hg5)) ?_
      refine g_no (Eq.trans (b := .bool (decide (k_354 < (out_353.length : Int)))) rfl (congrArg V.bool hg5)) ?_
      refine g_no (Eq.trans (b := .bool (decide (k_354 < (out_353.length : Int)))) rfl (congrArg V.bool hg5)) ?_
      refine g_no (Eq.trans (b := .bool (decide (k_354 < (out_353.length : Int)))) rfl (congrArg V.bool hg5)) ?_
      refine g_no (Eq.trans (b := .bool (decide (k_354 < (out_353.length : Int)))) rfl (congrArg V.bool hg5)) ?_
      refine g_no (Eq.trans (b := .bool (decide (k_354 < (out_353.length : Int)))) rfl (congrArg V.bool hg5)) ?_
      refine g_v2 (t1 := 29) (t2 := 36) (u1 := (.bool false)) (u2 := (.tup [])) (.bool false) (Eq.trans (b := .bool (decide (k_354 < (out_353.length : Int)))) rfl (congrArg V.bool hg5)) rfl rfl rfl ?_
      refine g_end ?_
      refine e_end ?_
      refine renew [(1, (Enc.enc (set_2 : List Int))), (3, (.ref (.bx 3) 0 [] (.agg [(.int .i64 g_1.1), (Enc.enc (g_1.2 : List (Int × Int)))]))), (6, (.sl .nl (Enc.shp Int) 0 [])), (7, (Enc.enc (out_353 : List Int))), (8, (.int .i64 round_130)), (9, (.int .i64 i_298)), (10, (.int .i64 k_354)), (37, (.bool false))] ⟨h1, h3, h6, h7, h8, h9, h10, rfl⟩ ?_
      rintro s ⟨h1, h3, h6, h7, h8, h9, h10, h37⟩
      exact t_f121_j2 H set_2 g_1 out_353 round_130 i_298 k_354 c1 Hc1 c10 Hc10 (s_l2Reach_l1 F set_2 g_1 round_130 i_298 c1 c10 k) ih false _ ⟨h1, h3, h6, h7, h8, h9, h10, h37⟩ h
def s_l2Reach_l2 (F : Nat) (set_2 : (List Int)) (g_1 : (Int × (List (Int × Int)))) (round_130 : Int) (c1 : (List Int) → Int → Option (List Int)) : Nat → (List Int) → Int → Option (List Int)
  | 0, _, _ => none
  | k + 1, out_297, i_298 =>
    bif decide (i_298 < (set_2.length : Int)) then
      s_l2Reach_l1 F set_2 g_1 round_130 i_298 c1 (s_l2Reach_l2 F set_2 g_1 round_130 c1 k) F out_297 0
    else
      c1 out_297 (w64 (round_130 + 1))
theorem t_f121_l2 (H : H121 D σ F) (set_2 : (List Int)) (g_1 : (Int × (List (Int × Int)))) (round_130 : Int) (c1 : (List Int) → Int → Option (List Int)) (Hc1 : ∀ (out_129 : (List Int)) (round_130 : Int) (s : Nat → V), Facts [(1, (Enc.enc (set_2 : List Int))), (3, (.ref (.bx 3) 0 [] (.agg [(.int .i64 g_1.1), (Enc.enc (g_1.2 : List (Int × Int)))]))), (6, (.sl .nl (Enc.shp Int) 0 [])), (7, (Enc.enc (out_129 : List Int))), (8, (.int .i64 round_130))] s → c1 out_129 round_130 = some r → Run D σ (R121 r) (.run A121_1 [.lp A121_1, .bk 0, .sq A121_16]) s) : ∀ (k : Nat) (out_297 : (List Int)) (i_298 : Int) (s : Nat → V), Facts [(1, (Enc.enc (set_2 : List Int))), (3, (.ref (.bx 3) 0 [] (.agg [(.int .i64 g_1.1), (Enc.enc (g_1.2 : List (Int × Int)))]))), (6, (.sl .nl (Enc.shp Int) 0 [])), (7, (Enc.enc (out_297 : List Int))), (8, (.int .i64 round_130)), (9, (.int .i64 i_298))] s → s_l2Reach_l2 F set_2 g_1 round_130 c1 k out_297 i_298 = some r → Run D σ (R121 r) (.run A121_5 [.lp A121_5, .bk 2, .bk 1, .sq A121_15, .lp A121_1, .bk 0, .sq A121_16]) s := by
  intro k
  induction k with
  | zero => intro out_297 i_298 s _ h; exact nomatch (h : (none : Option _) = some r)
  | succ k ih =>
    intro out_297 i_298 s hs h
    rw [s_l2Reach_l2] at h
    obtain ⟨h1, h3, h6, h7, h8, h9⟩ := hs
    refine .seq ?_
    refine .seq ?_
    refine run_reg ?_
    refine e_end ?_
    refine g_v1 (t := 9) (u := (.int .i64 i_298)) (.int .i64 i_298) h9 rfl rfl ?_
    refine g_v1 (t := 1) (u := (Enc.enc (set_2 : List Int))) (Enc.enc (set_2 : List Int)) h1 rfl rfl ?_
    refine g_v (.int .i64 (set_2.length : Int)) (ev_len (xs := set_2) rfl) ?_
    refine g_v2 (t1 := 19) (t2 := 21) (u1 := (.int .i64 i_298)) (u2 := (.int .i64 (set_2.length : Int))) (.bool (decide (i_298 < (set_2.length : Int)))) rfl rfl rfl rfl ?_
    refine g_end ?_
    refine e_end ?_
    refine renew [(1, (Enc.enc (set_2 : List Int))), (3, (.ref (.bx 3) 0 [] (.agg [(.int .i64 g_1.1), (Enc.enc (g_1.2 : List (Int × Int)))]))), (6, (.sl .nl (Enc.shp Int) 0 [])), (7, (Enc.enc (out_297 : List Int))), (8, (.int .i64 round_130)), (9, (.int .i64 i_298)), (22, (.bool (decide (i_298 < (set_2.length : Int)))))] ⟨h1, h3, h6, h7, h8, h9, rfl⟩ ?_
    rintro s ⟨h1, h3, h6, h7, h8, h9, h22⟩
    refine .nsq ?_
    refine run_cond (t := decide (i_298 < (set_2.length : Int))) h22 h (fun h => ?_) (fun h => ?_)
    · refine .skip ?_
      refine .nsq ?_
      refine .seq ?_
      refine .block ?_
      refine .seq ?_
      refine run_reg ?_
      refine e_end ?_
      refine g_v0 (.int .i64 0) rfl rfl ?_
      refine g_end ?_
      refine e_end ?_
      refine renew [(1, (Enc.enc (set_2 : List Int))), (3, (.ref (.bx 3) 0 [] (.agg [(.int .i64 g_1.1), (Enc.enc (g_1.2 : List (Int × Int)))]))), (6, (.sl .nl (Enc.shp Int) 0 [])), (7, (Enc.enc (out_297 : List Int))), (8, (.int .i64 round_130)), (9, (.int .i64 i_298)), (10, (.int .i64 0))] ⟨h1, h3, h6, h7, h8, h9, rfl⟩ ?_
      rintro s ⟨h1, h3, h6, h7, h8, h9, h10⟩
      refine .nsq ?_
      refine .block ?_
      refine .loop ?_
      exact t_f121_l1 H set_2 g_1 round_130 i_298 c1 Hc1 (s_l2Reach_l2 F set_2 g_1 round_130 c1 k) ih F out_297 0 _ ⟨h1, h3, h6, h7, h8, h9, h10⟩ h
    · refine .exit ?_
      refine .esq ?_
      refine .elp ?_
      refine .ebk ?_
      refine .nbk ?_
      refine .nsq ?_
      refine run_reg ?_
      refine e_end ?_
      refine g_v1 (t := 8) (u := (.int .i64 round_130)) (.int .i64 round_130) h8 rfl rfl ?_
      refine g_v1 (t := 17) (u := (.int .i64 round_130)) (.int .i64 (w64 (round_130 + 1))) rfl rfl rfl ?_
      refine g_v1 (t := 18) (u := (.int .i64 (w64 (round_130 + 1)))) (.int .i64 (w64 (round_130 + 1))) rfl rfl rfl ?_
      refine g_end ?_
      refine e_end ?_
      refine renew [(1, (Enc.enc (set_2 : List Int))), (3, (.ref (.bx 3) 0 [] (.agg [(.int .i64 g_1.1), (Enc.enc (g_1.2 : List (Int × Int)))]))), (6, (.sl .nl (Enc.shp Int) 0 [])), (7, (Enc.enc (out_297 : List Int))), (8, (.int .i64 (w64 (round_130 + 1))))] ⟨h1, h3, h6, h7, rfl⟩ ?_
      rintro s ⟨h1, h3, h6, h7, h8⟩
      refine .nlp ?_
      exact Hc1 out_297 (w64 (round_130 + 1)) _ ⟨h1, h3, h6, h7, h8⟩ h
def s_l2Reach_l3 (F : Nat) (set_2 : (List Int)) (g_1 : (Int × (List (Int × Int))))  : Nat → (List Int) → Int → Option (List Int)
  | 0, _, _ => none
  | k + 1, out_129, round_130 =>
    bif decide (round_130 < (set_2.length : Int)) then
      s_l2Reach_l2 F set_2 g_1 round_130 (s_l2Reach_l3 F set_2 g_1 k) F out_129 0
    else
      some out_129
theorem t_f121_l3 (H : H121 D σ F) (set_2 : (List Int)) (g_1 : (Int × (List (Int × Int))))  : ∀ (k : Nat) (out_129 : (List Int)) (round_130 : Int) (s : Nat → V), Facts [(1, (Enc.enc (set_2 : List Int))), (3, (.ref (.bx 3) 0 [] (.agg [(.int .i64 g_1.1), (Enc.enc (g_1.2 : List (Int × Int)))]))), (6, (.sl .nl (Enc.shp Int) 0 [])), (7, (Enc.enc (out_129 : List Int))), (8, (.int .i64 round_130))] s → s_l2Reach_l3 F set_2 g_1 k out_129 round_130 = some r → Run D σ (R121 r) (.run A121_1 [.lp A121_1, .bk 0, .sq A121_16]) s := by
  intro k
  induction k with
  | zero => intro out_129 round_130 s _ h; exact nomatch (h : (none : Option _) = some r)
  | succ k ih =>
    intro out_129 round_130 s hs h
    rw [s_l2Reach_l3] at h
    obtain ⟨h1, h3, h6, h7, h8⟩ := hs
    refine .seq ?_
    refine .seq ?_
    refine run_reg ?_
    refine e_end ?_
    refine g_v1 (t := 8) (u := (.int .i64 round_130)) (.int .i64 round_130) h8 rfl rfl ?_
    refine g_v1 (t := 1) (u := (Enc.enc (set_2 : List Int))) (Enc.enc (set_2 : List Int)) h1 rfl rfl ?_
    refine g_v (.int .i64 (set_2.length : Int)) (ev_len (xs := set_2) rfl) ?_
    refine g_v2 (t1 := 13) (t2 := 15) (u1 := (.int .i64 round_130)) (u2 := (.int .i64 (set_2.length : Int))) (.bool (decide (round_130 < (set_2.length : Int)))) rfl rfl rfl rfl ?_
    refine g_end ?_
    refine e_end ?_
    refine renew [(1, (Enc.enc (set_2 : List Int))), (3, (.ref (.bx 3) 0 [] (.agg [(.int .i64 g_1.1), (Enc.enc (g_1.2 : List (Int × Int)))]))), (6, (.sl .nl (Enc.shp Int) 0 [])), (7, (Enc.enc (out_129 : List Int))), (8, (.int .i64 round_130)), (16, (.bool (decide (round_130 < (set_2.length : Int)))))] ⟨h1, h3, h6, h7, h8, rfl⟩ ?_
    rintro s ⟨h1, h3, h6, h7, h8, h16⟩
    refine .nsq ?_
    refine run_cond (t := decide (round_130 < (set_2.length : Int))) h16 h (fun h => ?_) (fun h => ?_)
    · refine .skip ?_
      refine .nsq ?_
      refine .seq ?_
      refine .block ?_
      refine .seq ?_
      refine run_reg ?_
      refine e_end ?_
      refine g_v0 (.int .i64 0) rfl rfl ?_
      refine g_end ?_
      refine e_end ?_
      refine renew [(1, (Enc.enc (set_2 : List Int))), (3, (.ref (.bx 3) 0 [] (.agg [(.int .i64 g_1.1), (Enc.enc (g_1.2 : List (Int × Int)))]))), (6, (.sl .nl (Enc.shp Int) 0 [])), (7, (Enc.enc (out_129 : List Int))), (8, (.int .i64 round_130)), (9, (.int .i64 0))] ⟨h1, h3, h6, h7, h8, rfl⟩ ?_
      rintro s ⟨h1, h3, h6, h7, h8, h9⟩
      refine .nsq ?_
      refine .block ?_
      refine .loop ?_
      exact t_f121_l2 H set_2 g_1 round_130 (s_l2Reach_l3 F set_2 g_1 k) ih F out_129 0 _ ⟨h1, h3, h6, h7, h8, h9⟩ h
    · refine .exit ?_
      refine .esq ?_
      refine .elp ?_
      refine .ebk ?_
      refine .nsq ?_
      refine .seq ?_
      refine run_reg ?_
      refine e_end ?_
      refine g_v1 (t := 7) (u := (Enc.enc (out_129 : List Int))) (Enc.enc (out_129 : List Int)) h7 rfl rfl ?_
      refine g_v1 (t := 56) (u := (Enc.enc (out_129 : List Int))) (Enc.enc (out_129 : List Int)) rfl rfl rfl ?_
      refine g_end ?_
      refine e_end ?_
      refine renew [(6, (Enc.enc (out_129 : List Int)))] rfl ?_
      rintro s h6
      refine .nsq ?_
      refine .ret ?_
      have hr := Option.some.inj h
      subst hr
      exact rrA (res_tmp h6) (fin_ret1 (fin_enc (x := (out_129 : (List Int)))))
def s_l2Reach (F : Nat) (g_1 : (Int × (List (Int × Int)))) (set_2 : (List Int)) (x_3 : Int) : Option (List Int) :=
  s_l2Reach_l3 F set_2 g_1 F [x_3] 0
theorem t121 (H : H121 D σ F) (g_1 : (Int × (List (Int × Int)))) (set_2 : (List Int)) (x_3 : Int) (s : Nat → V) (hs : Facts [(0, (.agg [(.int .i64 g_1.1), (Enc.enc (g_1.2 : List (Int × Int)))])), (1, (Enc.enc (set_2 : List Int))), (2, (.int .i64 x_3))] s) (h : s_l2Reach F g_1 set_2 x_3 = some r) : Run D σ (R121 r) (.run A121 []) s := by
  unfold s_l2Reach at h
  obtain ⟨h0, h1, h2⟩ := hs
  refine .seq ?_
  refine run_reg ?_
  refine e_clr ?_
  refine e_end ?_
  refine g_box (.agg [(.int .i64 g_1.1), (Enc.enc (g_1.2 : List (Int × Int)))]) (rd_of (keep_clear (s := s) (pk := [3]) h0 rfl (map_agg (maps_cons rfl (maps_cons (Enc.map_enc _ (g_1.2 : List (Int × Int))) maps_nil)))) rfl) (gone_clear (s := s) (pk := [3]) (t := 3) rfl) rfl ?_
  refine g_v0 (.sl .nl (Enc.shp Int) 0 []) rfl rfl ?_
  refine g_end ?_
  refine e_end ?_
  refine renew [(1, (Enc.enc (set_2 : List Int))), (2, (.int .i64 x_3)), (3, (.ref (.bx 3) 0 [] (.agg [(.int .i64 g_1.1), (Enc.enc (g_1.2 : List (Int × Int)))]))), (6, (.sl .nl (Enc.shp Int) 0 []))] ⟨(keep_clear (s := s) (pk := [3]) h1 rfl (Enc.map_enc _ (set_2 : List Int))), (keep_clear (s := s) (pk := [3]) h2 rfl rfl), rfl, rfl⟩ ?_
  rintro s ⟨h1, h2, h3, h6⟩
  refine .nsq ?_
  refine .seq ?_
  refine run_reg ?_
  refine e_clr ?_
  refine e_end ?_
  refine g_v1 (t := 2) (u := (.int .i64 x_3)) (.int .i64 x_3) (keep_clear (s := s) (pk := [12]) h2 rfl rfl) rfl rfl ?_
  refine g_litL [(11, (.int .i64 x_3))] [Enc.enc (x_3 : Int)] rfl rfl rfl (gone_clear (s := s) (pk := [12]) (t := 12) rfl) ?_
  refine g_v1 (t := 12) (u := (encO (.at 12 []) (.of ([x_3] : List Int)))) (encO (.at 12 []) (.of ([x_3] : List Int))) rfl rfl rfl ?_
  refine g_end ?_
  refine e_home (r := 12) (x := 7) (v := (encO (.at 12 []) (.of ([x_3] : List Int)))) (by exact rfl) rfl (fun s_3 hg_3 => ?_)
  refine e_frz (x := 7) (v := (encO (.at 7 []) (.of ([x_3] : List Int)))) [(.at 7 [])] (by exact (hg_3 7 (encO (.at 12 []) (.of ([x_3] : List Int))) (encO (.at 7 []) (.of ([x_3] : List Int))) rfl (map_encO (r := 12) (p := []) rfl rfl))) toks_ownL (fun s_4 hg_4 => ?_)
  refine e_end ?_
  refine renew [(1, (Enc.enc (set_2 : List Int))), (3, (.ref (.bx 3) 0 [] (.agg [(.int .i64 g_1.1), (Enc.enc (g_1.2 : List (Int × Int)))]))), (6, (.sl .nl (Enc.shp Int) 0 [])), (7, (Enc.enc ([x_3] : List Int)))] ⟨(hg_4 1 (Enc.enc (set_2 : List Int)) (Enc.enc (set_2 : List Int)) (hg_3 1 (Enc.enc (set_2 : List Int)) (Enc.enc (set_2 : List Int)) (keep_clear (s := s) (pk := [12]) h1 rfl (Enc.map_enc _ (set_2 : List Int))) (Enc.map_enc _ (set_2 : List Int))) (Enc.frz_enc _ (set_2 : List Int))), (hg_4 3 (.ref (.bx 3) 0 [] (.agg [(.int .i64 g_1.1), (Enc.enc (g_1.2 : List (Int × Int)))])) (.ref (.bx 3) 0 [] (.agg [(.int .i64 g_1.1), (Enc.enc (g_1.2 : List (Int × Int)))])) (hg_3 3 (.ref (.bx 3) 0 [] (.agg [(.int .i64 g_1.1), (Enc.enc (g_1.2 : List (Int × Int)))])) (.ref (.bx 3) 0 [] (.agg [(.int .i64 g_1.1), (Enc.enc (g_1.2 : List (Int × Int)))])) (keep_clear (s := s) (pk := [12]) h3 rfl (map_bx rfl (map_agg (maps_cons rfl (maps_cons (Enc.map_enc _ (g_1.2 : List (Int × Int))) maps_nil))))) (map_bx rfl (map_agg (maps_cons rfl (maps_cons (Enc.map_enc _ (g_1.2 : List (Int × Int))) maps_nil))))) (frz_ref_ne rfl (frz_agg (frzs_cons rfl (frzs_cons (Enc.frz_enc _ (g_1.2 : List (Int × Int))) rfl))) rfl)), (hg_4 6 (.sl .nl (Enc.shp Int) 0 []) (.sl .nl (Enc.shp Int) 0 []) (hg_3 6 (.sl .nl (Enc.shp Int) 0 []) (.sl .nl (Enc.shp Int) 0 []) (keep_clear (s := s) (pk := [12]) h6 rfl rfl) rfl) rfl), (hg_4 7 (encO (.at 7 []) (.of ([x_3] : List Int))) (Enc.enc ([x_3] : List Int)) (hg_3 7 (encO (.at 12 []) (.of ([x_3] : List Int))) (encO (.at 7 []) (.of ([x_3] : List Int))) rfl (map_encO (r := 12) (p := []) rfl rfl)) frz_own)⟩ ?_
  rintro s ⟨h1, h3, h6, h7⟩
  refine .nsq ?_
  refine .seq ?_
  refine .seq ?_
  refine run_reg ?_
  refine e_end ?_
  refine g_v0 (.int .i64 0) rfl rfl ?_
  refine g_end ?_
  refine e_end ?_
  refine renew [(1, (Enc.enc (set_2 : List Int))), (3, (.ref (.bx 3) 0 [] (.agg [(.int .i64 g_1.1), (Enc.enc (g_1.2 : List (Int × Int)))]))), (6, (.sl .nl (Enc.shp Int) 0 [])), (7, (Enc.enc ([x_3] : List Int))), (8, (.int .i64 0))] ⟨h1, h3, h6, h7, rfl⟩ ?_
  rintro s ⟨h1, h3, h6, h7, h8⟩
  refine .nsq ?_
  refine .block ?_
  refine .loop ?_
  exact t_f121_l3 H set_2 g_1 F [x_3] 0 _ ⟨h1, h3, h6, h7, h8⟩ h
end
def e121 (F : Nat) : Ent := ⟨121, da (fun (x : ((Int × (List (Int × Int))) × (List Int) × Int × Unit)) => s_l2Reach F x.1 x.2.1 x.2.2.1) (fun (r : (List Int)) => (Enc.enc (r : (List Int)))), 0, true, selF []⟩
theorem p121 {F : Nat} {x0 : (Int × (List (Int × Int)))} {x1 : (List Int)} {x2 : Int} {r : (List Int)} (h : s_l2Reach F x0 x1 x2 = some r) : (e121 F).den [Enc.enc x0, Enc.enc x1, Enc.enc x2] = some (Enc.enc (r : (List Int))) := da_put (f := fun (x : ((Int × (List (Int × Int))) × (List Int) × Int × Unit)) => s_l2Reach F x.1 x.2.1 x.2.2.1) (t := fun (r : (List Int)) => (Enc.enc (r : (List Int)))) (x0, x1, x2, ()) h
theorem o121 {D : Den} {σ : Sig} {F : Nat} (hF : Fits2 Try.prog D σ) (H : H121 D σ F) : (e121 F).Ok Try.prog := by
  refine ⟨fun args r h => ?_, ⟨Try.f121, Try.func121, rfl, rfl⟩⟩
  obtain ⟨⟨x0, x1, x2, _⟩, y, rfl, hy, rfl⟩ := da_open h
  exact contract_run hF (by kernel_rfl) Try.func121 rfl c121 (show 3 ≤ Try.f121.ntmps by decide) (t121 H x0 x1 x2 _ ⟨rfl, rfl, rfl⟩ hy)
/- loop.example/g01109/spec.l2Parts -/
def A90_2 : AC := (AC.cond (O.t 15) AC.skip (AC.exit 0))
def A90_4 : AC := (AC.cond (O.t 23) (AC.exit 1) AC.skip)
def A90_9 : AC := (AC.cond (O.t 34) AC.skip (AC.exit 2))
def A90_11 : AC := (AC.reg [] [(I.mk (some 35) none false (X.v (A.mov (O.t 9)))), (I.mk (some 36) none false (X.v (A.bin BinOp.add (O.t 35) (O.k (V.int IntKind.i64 (Int.ofNat 1)))))), (I.mk (some 9) none false (X.v (A.mov (O.t 36))))] [])
def A90_10 : AC := (AC.seq (AC.block 3 (AC.reg [.frz 6] [(I.mk (some 37) none false (X.v (A.mov (O.t 6)))), (I.mk (some 38) none false (X.v (A.mov (O.t 8)))), (I.mk (some 39) none false (X.v (A.mov (O.t 9)))), (I.mk (some 40) none false (X.v (A.idx (O.t 38) (O.t 39) 1))), (I.mk (some 41) none false (X.v (A.load Sh.s (O.t 40)))), (I.mk (some 42) none false (X.call (O.k (V.fn 110 [] [])) [(O.t 37), (O.t 41)])), (I.mk (some 6) none false (X.v (A.mov (O.t 42))))] [])) A90_11)
def A90_8 : AC := (AC.seq (AC.seq (AC.reg [] [(I.mk (some 31) none false (X.v (A.mov (O.t 9)))), (I.mk (some 32) none false (X.v (A.mov (O.t 8)))), (I.mk (some 33) none false (X.v (A.len (O.t 32)))), (I.mk (some 34) none false (X.v (A.bin BinOp.lss (O.t 31) (O.t 33))))] []) A90_9) A90_10)
def A90_7 : AC := (AC.block 2 (AC.loop A90_8))
def A90_12 : AC := (AC.reg [.clr [45, 46]] [(I.mk (some 43) none false (X.v (A.mov (O.t 5)))), (I.mk (some 44) none false (X.v (A.mov (O.t 8)))), (I.mk (some 45) none false (X.lit (V.sl Tok.nl Sh.s 0 []) 1 [(0, 0, (O.t 44))])), (I.mk (some 46) none false (X.app Sh.p (O.t 43) (O.t 45))), (I.mk (some 5) none false (X.v (A.mov (O.t 46))))] [.home 46 5])
def A90_6 : AC := (AC.seq (AC.seq (AC.reg [] [(I.mk (some 9) none false (X.v (A.mov (O.k (V.int IntKind.i64 (Int.ofNat 0))))))] []) A90_7) A90_12)
def A90_5 : AC := (AC.seq (AC.reg [] [(I.mk (some 24) none false (X.v (A.load (Sh.ag [Sh.s, Sh.p]) (O.t 2)))), (I.mk (some 25) none false (X.v (A.mov (O.t 1)))), (I.mk (some 26) none false (X.v (A.mov (O.t 1)))), (I.mk (some 27) none false (X.v (A.mov (O.t 7)))), (I.mk (some 28) none false (X.v (A.idx (O.t 26) (O.t 27) 1))), (I.mk (some 29) none false (X.v (A.load Sh.s (O.t 28)))), (I.mk (some 30) none false (X.call (O.k (V.fn 121 [] [])) [(O.t 24), (O.t 25), (O.t 29)])), (I.mk (some 8) none false (X.v (A.mov (O.t 30))))] []) A90_6)
def A90_13 : AC := (AC.reg [] [(I.mk (some 16) none false (X.v (A.mov (O.t 7)))), (I.mk (some 17) none false (X.v (A.bin BinOp.add (O.t 16) (O.k (V.int IntKind.i64 (Int.ofNat 1)))))), (I.mk (some 7) none false (X.v (A.mov (O.t 17))))] [])
def A90_3 : AC := (AC.seq (AC.block 1 (AC.seq (AC.seq (AC.reg [] [(I.mk (some 18) none false (X.v (A.mov (O.t 6)))), (I.mk (some 19) none false (X.v (A.mov (O.t 1)))), (I.mk (some 20) none false (X.v (A.mov (O.t 7)))), (I.mk (some 21) none false (X.v (A.idx (O.t 19) (O.t 20) 1))), (I.mk (some 22) none false (X.v (A.load Sh.s (O.t 21)))), (I.mk (some 23) none false (X.call (O.k (V.fn 45 [] [])) [(O.t 18), (O.t 22)]))] []) A90_4) A90_5)) A90_13)
def A90_1 : AC := (AC.seq (AC.seq (AC.reg [] [(I.mk (some 12) none false (X.v (A.mov (O.t 7)))), (I.mk (some 13) none false (X.v (A.mov (O.t 1)))), (I.mk (some 14) none false (X.v (A.len (O.t 13)))), (I.mk (some 15) none false (X.v (A.bin BinOp.lss (O.t 12) (O.t 14))))] []) A90_2) A90_3)
def A90_14 : AC := (AC.seq (AC.reg [] [(I.mk (some 47) none false (X.v (A.mov (O.t 5)))), (I.mk (some 4) none false (X.v (A.mov (O.t 47))))] [.home 5 4]) AC.ret)
def A90_17 : AC := (AC.block 0 (AC.loop A90_1))
def A90_16 : AC := (AC.seq (AC.seq (AC.reg [] [(I.mk (some 7) none false (X.v (A.mov (O.k (V.int IntKind.i64 (Int.ofNat 0))))))] [.frz 6]) A90_17) A90_14)
def A90_15 : AC := (AC.seq (AC.reg [.clr [10, 11]] [(I.mk (some 10) none false (X.lit (V.sl Tok.nl Sh.s 0 []) 0 [])), (I.mk (some 11) none false (X.lit (V.int IntKind.i64 (Int.ofNat 0)) 0 [])), (I.mk (some 5) none false (X.v (A.mov (O.t 10)))), (I.mk (some 6) none false (X.v (A.mov (O.t 11))))] [.home 10 5, .home 11 6]) A90_16)
def A90 : AC := (AC.seq (AC.reg [.clr [2]] [(I.mk (some 2) none false (X.box (O.t 0))), (I.mk (some 4) none false (X.v (A.mov (O.k (V.sl Tok.nl Sh.p 0 [])))))] []) A90_15)
def an90 : List An := [{ id := 0, pre := [.clr [2]], ep := [], lin := [], sp := [] }, { id := 1, pre := [.clr [10, 11]], ep := [.home 10 5, .home 11 6], lin := [], sp := [] }, { id := 2, pre := [], ep := [.frz 6], lin := [], sp := [] }, { id := 10, pre := [.frz 6], ep := [], lin := [], sp := [] }, { id := 11, pre := [.clr [45, 46]], ep := [.home 46 5], lin := [], sp := [] }, { id := 12, pre := [], ep := [.home 5 4], lin := [], sp := [] }]
theorem c90 : cC Try.prog Try.f90.ntmps an90 (Try.f90.body.getD .skip) = some A90 := by kernel_rfl
structure H90 (D : Den) (σ : Sig) (F : Nat) : Prop where
  c45 : ∀ (x0 : (List Int)) (x1 : Int) r, s_l1Has F x0 x1 = some r → D 45 [Enc.enc x0, Enc.enc x1] = some (Enc.enc (r : Bool))
  g45 : σ 45 = some (0, false)
  c121 : ∀ (x0 : (Int × (List (Int × Int)))) (x1 : (List Int)) (x2 : Int) r, s_l2Reach F x0 x1 x2 = some r → D 121 [Enc.enc x0, Enc.enc x1, Enc.enc x2] = some (Enc.enc (r : (List Int)))
  g121 : σ 121 = some (0, true)
  c110 : ∀ (x0 : (List Int)) (x1 : Int) r, s_l1Put F x0 x1 = some r → D 110 [Enc.enc x0, Enc.enc x1] = some (Enc.enc (r : (List Int)))
  g110 : σ 110 = some (0, true)
abbrev R90 (r : (List (List Int))) : (Nat → V) → Prop := RR Try.prog [.tmp 4] 0 true (Enc.enc (r : (List (List Int))))
section
variable {D : Den} {σ : Sig} {F : Nat} {r : (List (List Int))}
def s_l2Parts_l1 (F : Nat) (set_2 : (List Int)) (g_1 : (Int × (List (Int × Int)))) (out_16 : (List (List Int))) (i_18 : Int) (r_35 : (List Int)) (c1 : (List (List Int)) → (List Int) → Int → Option (List (List Int))) : Nat → (List Int) → Int → Option (List (List Int))
  | 0, _, _ => none
  | k + 1, seen_38, k_39 =>
    bif decide (k_39 < (r_35.length : Int)) then
      (idx r_35 k_39).bind fun e_42 =>
      (s_l1Put F seen_38 e_42).bind fun r_43 =>
      (s_l2Parts_l1 F set_2 g_1 out_16 i_18 r_35 c1 k) r_43 (w64 (k_39 + 1))
    else
      (appL out_16 [r_35]).bind fun ap_44 =>
      c1 ap_44 seen_38 (w64 (i_18 + 1))
theorem t_f90_l1 (H : H90 D σ F) (set_2 : (List Int)) (g_1 : (Int × (List (Int × Int)))) (out_16 : (List (List Int))) (i_18 : Int) (r_35 : (List Int)) (c1 : (List (List Int)) → (List Int) → Int → Option (List (List Int))) (Hc1 : ∀ (out_16 : (List (List Int))) (seen_17 : (List Int)) (i_18 : Int) (s : Nat → V), Facts [(1, (Enc.enc (set_2 : List Int))), (2, (.ref (.bx 2) 0 [] (.agg [(.int .i64 g_1.1), (Enc.enc (g_1.2 : List (Int × Int)))]))), (4, (.sl .nl (Enc.shp (List Int)) 0 [])), (5, (encO (.at 5 []) (.of (out_16 : List (List Int))))), (6, (Enc.enc (seen_17 : List Int))), (7, (.int .i64 i_18))] s → c1 out_16 seen_17 i_18 = some r → Run D σ (R90 r) (.run A90_1 [.lp A90_1, .bk 0, .sq A90_14]) s) : ∀ (k : Nat) (seen_38 : (List Int)) (k_39 : Int) (s : Nat → V), Facts [(1, (Enc.enc (set_2 : List Int))), (2, (.ref (.bx 2) 0 [] (.agg [(.int .i64 g_1.1), (Enc.enc (g_1.2 : List (Int × Int)))]))), (4, (.sl .nl (Enc.shp (List Int)) 0 [])), (5, (encO (.at 5 []) (.of (out_16 : List (List Int))))), (6, (Enc.enc (seen_38 : List Int))), (7, (.int .i64 i_18)), (8, (Enc.enc (r_35 : List Int))), (9, (.int .i64 k_39))] s → s_l2Parts_l1 F set_2 g_1 out_16 i_18 r_35 c1 k seen_38 k_39 = some r → Run D σ (R90 r) (.run A90_8 [.lp A90_8, .bk 2, .sq A90_12, .bk 1, .sq A90_13, .lp A90_1, .bk 0, .sq A90_14]) s := by
  intro k
  induction k with
  | zero => intro seen_38 k_39 s _ h; exact nomatch (h : (none : Option _) = some r)
  | succ k ih =>
    intro seen_38 k_39 s hs h
    rw [s_l2Parts_l1] at h
    obtain ⟨h1, h2, h4, h5, h6, h7, h8, h9⟩ := hs
    refine .seq ?_
    refine .seq ?_
    refine run_reg ?_
    refine e_end ?_
    refine g_v1 (t := 9) (u := (.int .i64 k_39)) (.int .i64 k_39) h9 rfl rfl ?_
    refine g_v1 (t := 8) (u := (Enc.enc (r_35 : List Int))) (Enc.enc (r_35 : List Int)) h8 rfl rfl ?_
    refine g_v (.int .i64 (r_35.length : Int)) (ev_len (xs := r_35) rfl) ?_
    refine g_v2 (t1 := 31) (t2 := 33) (u1 := (.int .i64 k_39)) (u2 := (.int .i64 (r_35.length : Int))) (.bool (decide (k_39 < (r_35.length : Int)))) rfl rfl rfl rfl ?_
    refine g_end ?_
    refine e_end ?_
    refine renew [(1, (Enc.enc (set_2 : List Int))), (2, (.ref (.bx 2) 0 [] (.agg [(.int .i64 g_1.1), (Enc.enc (g_1.2 : List (Int × Int)))]))), (4, (.sl .nl (Enc.shp (List Int)) 0 [])), (5, (encO (.at 5 []) (.of (out_16 : List (List Int))))), (6, (Enc.enc (seen_38 : List Int))), (7, (.int .i64 i_18)), (8, (Enc.enc (r_35 : List Int))), (9, (.int .i64 k_39)), (34, (.bool (decide (k_39 < (r_35.length : Int)))))] ⟨h1, h2, h4, h5, h6, h7, h8, h9, rfl⟩ ?_
    rintro s ⟨h1, h2, h4, h5, h6, h7, h8, h9, h34⟩
    refine .nsq ?_
    refine run_cond (t := decide (k_39 < (r_35.length : Int))) h34 h (fun h => ?_) (fun h => ?_)
    · refine .skip ?_
      refine .nsq ?_
      refine .seq ?_
      refine .block ?_
      refine run_reg ?_
      refine e_frz (x := 6) (v := (Enc.enc (seen_38 : List Int))) [] (by exact h6) (Enc.toks_enc (seen_38 : List Int)) (fun s_20 hg_20 => ?_)
      refine e_end ?_
      refine g_v1 (t := 6) (u := (Enc.enc (seen_38 : List Int))) (Enc.enc (seen_38 : List Int)) (hg_20 6 (Enc.enc (seen_38 : List Int)) (Enc.enc (seen_38 : List Int)) h6 (frz_none _)) rfl rfl ?_
      refine g_v1 (t := 8) (u := (Enc.enc (r_35 : List Int))) (Enc.enc (r_35 : List Int)) (hg_20 8 (Enc.enc (r_35 : List Int)) (Enc.enc (r_35 : List Int)) h8 (frz_none _)) rfl rfl ?_
      refine g_v1 (t := 9) (u := (.int .i64 k_39)) (.int .i64 k_39) (hg_20 9 (.int .i64 k_39) (.int .i64 k_39) h9 (frz_none _)) rfl rfl ?_
      obtain ⟨e_42, E_e_42, h⟩ := bind_some h
      refine g_v (.ref .sh 0 [] (.int .i64 e_42)) (ev_idx (t := .sh) (lo := 0) (xs := r_35) rfl rfl E_e_42 rfl rfl) ?_
      refine g_v1 (t := 40) (u := (.ref .sh 0 [] (.int .i64 e_42))) (.int .i64 e_42) rfl rfl rfl ?_
      obtain ⟨r_43, E_r_43, h⟩ := bind_some h
      refine g_call (m := 0) (al := true) (r := (Enc.enc (r_43 : (List Int)))) [Enc.enc (seen_38 : (List Int)), Enc.enc (e_42 : Int)] (ta_cons (v := (Enc.enc (seen_38 : List Int))) rfl rfl (Enc.erase_enc (seen_38 : (List Int))) (ta_cons (v := (.int .i64 e_42)) rfl rfl rfl ta_nil)) (H.c110 _ _ _ E_r_43) H.g110 (hal_of (ht_cons (v := (Enc.enc (seen_38 : List Int))) rfl rfl rfl (ht_cons (v := (.int .i64 e_42)) rfl rfl rfl ht_nil))) rfl rfl rfl ?_
      refine g_v1 (t := 42) (u := (Enc.enc (r_43 : List Int))) (Enc.enc (r_43 : List Int)) rfl rfl rfl ?_
      refine g_end ?_
      refine e_end ?_
      refine renew [(1, (Enc.enc (set_2 : List Int))), (2, (.ref (.bx 2) 0 [] (.agg [(.int .i64 g_1.1), (Enc.enc (g_1.2 : List (Int × Int)))]))), (4, (.sl .nl (Enc.shp (List Int)) 0 [])), (5, (encO (.at 5 []) (.of (out_16 : List (List Int))))), (6, (Enc.enc (r_43 : List Int))), (7, (.int .i64 i_18)), (8, (Enc.enc (r_35 : List Int))), (9, (.int .i64 k_39))] ⟨(hg_20 1 (Enc.enc (set_2 : List Int)) (Enc.enc (set_2 : List Int)) h1 (frz_none _)), (hg_20 2 (.ref (.bx 2) 0 [] (.agg [(.int .i64 g_1.1), (Enc.enc (g_1.2 : List (Int × Int)))])) (.ref (.bx 2) 0 [] (.agg [(.int .i64 g_1.1), (Enc.enc (g_1.2 : List (Int × Int)))])) h2 (frz_none _)), (hg_20 4 (.sl .nl (Enc.shp (List Int)) 0 []) (.sl .nl (Enc.shp (List Int)) 0 []) h4 (frz_none _)), (hg_20 5 (encO (.at 5 []) (.of (out_16 : List (List Int)))) (encO (.at 5 []) (.of (out_16 : List (List Int)))) h5 (frz_none _)), rfl, (hg_20 7 (.int .i64 i_18) (.int .i64 i_18) h7 (frz_none _)), (hg_20 8 (Enc.enc (r_35 : List Int)) (Enc.enc (r_35 : List Int)) h8 (frz_none _)), (hg_20 9 (.int .i64 k_39) (.int .i64 k_39) h9 (frz_none _))⟩ ?_
      rintro s ⟨h1, h2, h4, h5, h6, h7, h8, h9⟩
      refine .nbk ?_
      refine .nsq ?_
      refine run_reg ?_
      refine e_end ?_
      refine g_v1 (t := 9) (u := (.int .i64 k_39)) (.int .i64 k_39) h9 rfl rfl ?_
      refine g_v1 (t := 35) (u := (.int .i64 k_39)) (.int .i64 (w64 (k_39 + 1))) rfl rfl rfl ?_
      refine g_v1 (t := 36) (u := (.int .i64 (w64 (k_39 + 1)))) (.int .i64 (w64 (k_39 + 1))) rfl rfl rfl ?_
      refine g_end ?_
      refine e_end ?_
      refine renew [(1, (Enc.enc (set_2 : List Int))), (2, (.ref (.bx 2) 0 [] (.agg [(.int .i64 g_1.1), (Enc.enc (g_1.2 : List (Int × Int)))]))), (4, (.sl .nl (Enc.shp (List Int)) 0 [])), (5, (encO (.at 5 []) (.of (out_16 : List (List Int))))), (6, (Enc.enc (r_43 : List Int))), (7, (.int .i64 i_18)), (8, (Enc.enc (r_35 : List Int))), (9, (.int .i64 (w64 (k_39 + 1))))] ⟨h1, h2, h4, h5, h6, h7, h8, rfl⟩ ?_
      rintro s ⟨h1, h2, h4, h5, h6, h7, h8, h9⟩
      refine .nlp ?_
      exact ih r_43 (w64 (k_39 + 1)) _ ⟨h1, h2, h4, h5, h6, h7, h8, h9⟩ h
    · refine .exit ?_
      refine .esq ?_
      refine .elp ?_
      refine .ebk ?_
      refine .nsq ?_
      refine run_reg ?_
      refine e_clr ?_
      refine e_end ?_
      refine g_v1 (t := 5) (u := (encO (.at 5 []) (.of (out_16 : List (List Int))))) (encO (.at 5 []) (.of (out_16 : List (List Int)))) (keep_clear (s := s) (pk := [45, 46]) h5 rfl (map_encO (r := 5) (p := []) rfl rfl)) rfl rfl ?_
      refine g_v1 (t := 8) (u := (Enc.enc (r_35 : List Int))) (Enc.enc (r_35 : List Int)) (keep_clear (s := s) (pk := [45, 46]) h8 rfl (Enc.map_enc _ (r_35 : List Int))) rfl rfl ?_
      refine g_litL [(44, (Enc.enc (r_35 : List Int)))] [Enc.enc (r_35 : (List Int))] rfl rfl rfl (gone_clear (s := s) (pk := [45, 46]) (t := 45) rfl) ?_
      obtain ⟨ap_44, E_ap_44, h⟩ := bind_some h
      refine g_app (q := 5) (p := []) (o := (.of (out_16 : List (List Int)))) (ys := ([r_35] : List (List Int))) (t2 := (.at 45 [])) (lo2 := 0) rfl rfl rfl (gone_clear (s := s) (pk := [45, 46]) (t := 46) rfl) (appN_L (o := (.of (out_16 : List (List Int)))) E_ap_44 trivial) (fun s_22 ha_22 => ?_)
      refine g_v1 (t := 46) (u := (encO (.at 46 []) (.of (ap_44 : List (List Int))))) (encO (.at 46 []) (.of (ap_44 : List (List Int)))) rfl rfl rfl ?_
      refine g_end ?_
      refine e_home (r := 46) (x := 5) (v := (encO (.at 46 []) (.of (ap_44 : List (List Int))))) (by exact rfl) rfl (fun s_23 hg_23 => ?_)
      refine e_end ?_
      refine renew [(1, (Enc.enc (set_2 : List Int))), (2, (.ref (.bx 2) 0 [] (.agg [(.int .i64 g_1.1), (Enc.enc (g_1.2 : List (Int × Int)))]))), (4, (.sl .nl (Enc.shp (List Int)) 0 [])), (5, (encO (.at 5 []) (.of (ap_44 : List (List Int))))), (6, (Enc.enc (seen_38 : List Int))), (7, (.int .i64 i_18))] ⟨(hg_23 1 (Enc.enc (set_2 : List Int)) (Enc.enc (set_2 : List Int)) (show s_22 1 = (Enc.enc (set_2 : List Int)) from keep_app ha_22 (keep_clear (s := s) (pk := [45, 46]) h1 rfl (Enc.map_enc _ (set_2 : List Int))) (Enc.map_enc _ (set_2 : List Int))) (Enc.map_enc _ (set_2 : List Int))), (hg_23 2 (.ref (.bx 2) 0 [] (.agg [(.int .i64 g_1.1), (Enc.enc (g_1.2 : List (Int × Int)))])) (.ref (.bx 2) 0 [] (.agg [(.int .i64 g_1.1), (Enc.enc (g_1.2 : List (Int × Int)))])) (show s_22 2 = (.ref (.bx 2) 0 [] (.agg [(.int .i64 g_1.1), (Enc.enc (g_1.2 : List (Int × Int)))])) from keep_app ha_22 (keep_clear (s := s) (pk := [45, 46]) h2 rfl (map_bx rfl (map_agg (maps_cons rfl (maps_cons (Enc.map_enc _ (g_1.2 : List (Int × Int))) maps_nil))))) (map_bx rfl (map_agg (maps_cons rfl (maps_cons (Enc.map_enc _ (g_1.2 : List (Int × Int))) maps_nil))))) (map_bx rfl (map_agg (maps_cons rfl (maps_cons (Enc.map_enc _ (g_1.2 : List (Int × Int))) maps_nil))))), (hg_23 4 (.sl .nl (Enc.shp (List Int)) 0 []) (.sl .nl (Enc.shp (List Int)) 0 []) (show s_22 4 = (.sl .nl (Enc.shp (List Int)) 0 []) from keep_app ha_22 (keep_clear (s := s) (pk := [45, 46]) h4 rfl rfl) rfl) rfl), (hg_23 5 (encO (.at 46 []) (.of (ap_44 : List (List Int)))) (encO (.at 5 []) (.of (ap_44 : List (List Int)))) rfl (map_encO (r := 46) (p := []) rfl rfl)), (hg_23 6 (Enc.enc (seen_38 : List Int)) (Enc.enc (seen_38 : List Int)) (show s_22 6 = (Enc.enc (seen_38 : List Int)) from keep_app ha_22 (keep_clear (s := s) (pk := [45, 46]) h6 rfl (Enc.map_enc _ (seen_38 : List Int))) (Enc.map_enc _ (seen_38 : List Int))) (Enc.map_enc _ (seen_38 : List Int))), (hg_23 7 (.int .i64 i_18) (.int .i64 i_18) (show s_22 7 = (.int .i64 i_18) from keep_app ha_22 (keep_clear (s := s) (pk := [45, 46]) h7 rfl rfl) rfl) rfl)⟩ ?_
      rintro s ⟨h1, h2, h4, h5, h6, h7⟩
      refine .nbk ?_
      refine .nsq ?_
      refine run_reg ?_
      refine e_end ?_
      refine g_v1 (t := 7) (u := (.int .i64 i_18)) (.int .i64 i_18) h7 rfl rfl ?_
      refine g_v1 (t := 16) (u := (.int .i64 i_18)) (.int .i64 (w64 (i_18 + 1))) rfl rfl rfl ?_
      refine g_v1 (t := 17) (u := (.int .i64 (w64 (i_18 + 1)))) (.int .i64 (w64 (i_18 + 1))) rfl rfl rfl ?_
      refine g_end ?_
      refine e_end ?_
      refine renew [(1, (Enc.enc (set_2 : List Int))), (2, (.ref (.bx 2) 0 [] (.agg [(.int .i64 g_1.1), (Enc.enc (g_1.2 : List (Int × Int)))]))), (4, (.sl .nl (Enc.shp (List Int)) 0 [])), (5, (encO (.at 5 []) (.of (ap_44 : List (List Int))))), (6, (Enc.enc (seen_38 : List Int))), (7, (.int .i64 (w64 (i_18 + 1))))] ⟨h1, h2, h4, h5, h6, rfl⟩ ?_
      rintro s ⟨h1, h2, h4, h5, h6, h7⟩
      refine .nlp ?_
      exact Hc1 ap_44 seen_38 (w64 (i_18 + 1)) _ ⟨h1, h2, h4, h5, h6, h7⟩ h
def s_l2Parts_l2 (F : Nat) (set_2 : (List Int)) (g_1 : (Int × (List (Int × Int))))  : Nat → (List (List Int)) → (List Int) → Int → Option (List (List Int))
  | 0, _, _, _ => none
  | k + 1, out_16, seen_17, i_18 =>
    bif decide (i_18 < (set_2.length : Int)) then
      (idx set_2 i_18).bind fun e_32 =>
      (s_l1Has F seen_17 e_32).bind fun r_33 =>
      bif r_33 then
        (s_l2Parts_l2 F set_2 g_1 k) out_16 seen_17 (w64 (i_18 + 1))
      else
        (idx set_2 i_18).bind fun e_34 =>
        (s_l2Reach F g_1 set_2 e_34).bind fun r_35 =>
        s_l2Parts_l1 F set_2 g_1 out_16 i_18 r_35 (s_l2Parts_l2 F set_2 g_1 k) F seen_17 0
    else
      some out_16
theorem t_f90_l2 (H : H90 D σ F) (set_2 : (List Int)) (g_1 : (Int × (List (Int × Int))))  : ∀ (k : Nat) (out_16 : (List (List Int))) (seen_17 : (List Int)) (i_18 : Int) (s : Nat → V), Facts [(1, (Enc.enc (set_2 : List Int))), (2, (.ref (.bx 2) 0 [] (.agg [(.int .i64 g_1.1), (Enc.enc (g_1.2 : List (Int × Int)))]))), (4, (.sl .nl (Enc.shp (List Int)) 0 [])), (5, (encO (.at 5 []) (.of (out_16 : List (List Int))))), (6, (Enc.enc (seen_17 : List Int))), (7, (.int .i64 i_18))] s → s_l2Parts_l2 F set_2 g_1 k out_16 seen_17 i_18 = some r → Run D σ (R90 r) (.run A90_1 [.lp A90_1, .bk 0, .sq A90_14]) s := by
  intro k
  induction k with
  | zero => intro out_16 seen_17 i_18 s _ h; exact nomatch (h : (none : Option _) = some r)
  | succ k ih =>
    intro out_16 seen_17 i_18 s hs h
    rw [s_l2Parts_l2] at h
    obtain ⟨h1, h2, h4, h5, h6, h7⟩ := hs
    refine .seq ?_
    refine .seq ?_
    refine run_reg ?_
    refine e_end ?_
    refine g_v1 (t := 7) (u := (.int .i64 i_18)) (.int .i64 i_18) h7 rfl rfl ?_
    refine g_v1 (t := 1) (u := (Enc.enc (set_2 : List Int))) (Enc.enc (set_2 : List Int)) h1 rfl rfl ?_
    refine g_v (.int .i64 (set_2.length : Int)) (ev_len (xs := set_2) rfl) ?_
    refine g_v2 (t1 := 12) (t2 := 14) (u1 := (.int .i64 i_18)) (u2 := (.int .i64 (set_2.length : Int))) (.bool (decide (i_18 < (set_2.length : Int)))) rfl rfl rfl rfl ?_
    refine g_end ?_
    refine e_end ?_
    refine renew [(1, (Enc.enc (set_2 : List Int))), (2, (.ref (.bx 2) 0 [] (.agg [(.int .i64 g_1.1), (Enc.enc (g_1.2 : List (Int × Int)))]))), (4, (.sl .nl (Enc.shp (List Int)) 0 [])), (5, (encO (.at 5 []) (.of (out_16 : List (List Int))))), (6, (Enc.enc (seen_17 : List Int))), (7, (.int .i64 i_18)), (15, (.bool (decide (i_18 < (set_2.length : Int)))))] ⟨h1, h2, h4, h5, h6, h7, rfl⟩ ?_
    rintro s ⟨h1, h2, h4, h5, h6, h7, h15⟩
    refine .nsq ?_
    refine run_cond (t := decide (i_18 < (set_2.length : Int))) h15 h (fun h => ?_) (fun h => ?_)
    · refine .skip ?_
      refine .nsq ?_
      refine .seq ?_
      refine .block ?_
      refine .seq ?_
      refine .seq ?_
      refine run_reg ?_
      refine e_end ?_
      refine g_v1 (t := 6) (u := (Enc.enc (seen_17 : List Int))) (Enc.enc (seen_17 : List Int)) h6 rfl rfl ?_
      refine g_v1 (t := 1) (u := (Enc.enc (set_2 : List Int))) (Enc.enc (set_2 : List Int)) h1 rfl rfl ?_
      refine g_v1 (t := 7) (u := (.int .i64 i_18)) (.int .i64 i_18) h7 rfl rfl ?_
      obtain ⟨e_32, E_e_32, h⟩ := bind_some h
      refine g_v (.ref .sh 0 [] (.int .i64 e_32)) (ev_idx (t := .sh) (lo := 0) (xs := set_2) rfl rfl E_e_32 rfl rfl) ?_
      refine g_v1 (t := 21) (u := (.ref .sh 0 [] (.int .i64 e_32))) (.int .i64 e_32) rfl rfl rfl ?_
      obtain ⟨r_33, E_r_33, h⟩ := bind_some h
      refine g_call (m := 0) (al := false) (r := (Enc.enc (r_33 : Bool))) [Enc.enc (seen_17 : (List Int)), Enc.enc (e_32 : Int)] (ta_cons (v := (Enc.enc (seen_17 : List Int))) rfl rfl (Enc.erase_enc (seen_17 : (List Int))) (ta_cons (v := (.int .i64 e_32)) rfl rfl rfl ta_nil)) (H.c45 _ _ _ E_r_33) H.g45 rfl rfl rfl rfl ?_
      refine g_end ?_
      refine e_end ?_
      refine renew [(1, (Enc.enc (set_2 : List Int))), (2, (.ref (.bx 2) 0 [] (.agg [(.int .i64 g_1.1), (Enc.enc (g_1.2 : List (Int × Int)))]))), (4, (.sl .nl (Enc.shp (List Int)) 0 [])), (5, (encO (.at 5 []) (.of (out_16 : List (List Int))))), (6, (Enc.enc (seen_17 : List Int))), (7, (.int .i64 i_18)), (23, (.bool r_33))] ⟨h1, h2, h4, h5, h6, h7, rfl⟩ ?_
      rintro s ⟨h1, h2, h4, h5, h6, h7, h23⟩
      refine .nsq ?_
      refine run_cond (t := r_33) h23 h (fun h => ?_) (fun h => ?_)
      · refine .exit ?_
        refine .esq ?_
        refine .ebk ?_
        refine .nsq ?_
        refine run_reg ?_
        refine e_end ?_
        refine g_v1 (t := 7) (u := (.int .i64 i_18)) (.int .i64 i_18) h7 rfl rfl ?_
        refine g_v1 (t := 16) (u := (.int .i64 i_18)) (.int .i64 (w64 (i_18 + 1))) rfl rfl rfl ?_
        refine g_v1 (t := 17) (u := (.int .i64 (w64 (i_18 + 1)))) (.int .i64 (w64 (i_18 + 1))) rfl rfl rfl ?_
        refine g_end ?_
        refine e_end ?_
        refine renew [(1, (Enc.enc (set_2 : List Int))), (2, (.ref (.bx 2) 0 [] (.agg [(.int .i64 g_1.1), (Enc.enc (g_1.2 : List (Int × Int)))]))), (4, (.sl .nl (Enc.shp (List Int)) 0 [])), (5, (encO (.at 5 []) (.of (out_16 : List (List Int))))), (6, (Enc.enc (seen_17 : List Int))), (7, (.int .i64 (w64 (i_18 + 1))))] ⟨h1, h2, h4, h5, h6, rfl⟩ ?_
        rintro s ⟨h1, h2, h4, h5, h6, h7⟩
        refine .nlp ?_
        exact ih out_16 seen_17 (w64 (i_18 + 1)) _ ⟨h1, h2, h4, h5, h6, h7⟩ h
      · refine .skip ?_
        refine .nsq ?_
        refine .seq ?_
        refine run_reg ?_
        refine e_end ?_
        refine g_v1 (t := 2) (u := (.ref (.bx 2) 0 [] (.agg [(.int .i64 g_1.1), (Enc.enc (g_1.2 : List (Int × Int)))]))) (.agg [(.int .i64 g_1.1), (Enc.enc (g_1.2 : List (Int × Int)))]) h2 rfl rfl ?_
        refine g_v1 (t := 1) (u := (Enc.enc (set_2 : List Int))) (Enc.enc (set_2 : List Int)) h1 rfl rfl ?_
        refine g_v1 (t := 1) (u := (Enc.enc (set_2 : List Int))) (Enc.enc (set_2 : List Int)) h1 rfl rfl ?_
        refine g_v1 (t := 7) (u := (.int .i64 i_18)) (.int .i64 i_18) h7 rfl rfl ?_
        obtain ⟨e_34, E_e_34, h⟩ := bind_some h
        refine g_v (.ref .sh 0 [] (.int .i64 e_34)) (ev_idx (t := .sh) (lo := 0) (xs := set_2) rfl rfl E_e_34 rfl rfl) ?_
        refine g_v1 (t := 28) (u := (.ref .sh 0 [] (.int .i64 e_34))) (.int .i64 e_34) rfl rfl rfl ?_
        obtain ⟨r_35, E_r_35, h⟩ := bind_some h
        refine g_call (m := 0) (al := true) (r := (Enc.enc (r_35 : (List Int)))) [Enc.enc (g_1 : (Int × (List (Int × Int)))), Enc.enc (set_2 : (List Int)), Enc.enc (e_34 : Int)] (ta_cons (v := (.agg [(.int .i64 g_1.1), (Enc.enc (g_1.2 : List (Int × Int)))])) rfl rfl (Enc.erase_enc (g_1 : (Int × (List (Int × Int))))) (ta_cons (v := (Enc.enc (set_2 : List Int))) rfl rfl (Enc.erase_enc (set_2 : (List Int))) (ta_cons (v := (.int .i64 e_34)) rfl rfl rfl ta_nil))) (H.c121 _ _ _ _ E_r_35) H.g121 (hal_of (ht_cons (v := (.agg [(.int .i64 g_1.1), (Enc.enc (g_1.2 : List (Int × Int)))])) rfl rfl rfl (ht_cons (v := (Enc.enc (set_2 : List Int))) rfl rfl rfl (ht_cons (v := (.int .i64 e_34)) rfl rfl rfl ht_nil)))) rfl rfl rfl ?_
        refine g_v1 (t := 30) (u := (Enc.enc (r_35 : List Int))) (Enc.enc (r_35 : List Int)) rfl rfl rfl ?_
        refine g_end ?_
        refine e_end ?_
        refine renew [(1, (Enc.enc (set_2 : List Int))), (2, (.ref (.bx 2) 0 [] (.agg [(.int .i64 g_1.1), (Enc.enc (g_1.2 : List (Int × Int)))]))), (4, (.sl .nl (Enc.shp (List Int)) 0 [])), (5, (encO (.at 5 []) (.of (out_16 : List (List Int))))), (6, (Enc.enc (seen_17 : List Int))), (7, (.int .i64 i_18)), (8, (Enc.enc (r_35 : List Int)))] ⟨h1, h2, h4, h5, h6, h7, rfl⟩ ?_
        rintro s ⟨h1, h2, h4, h5, h6, h7, h8⟩
        refine .nsq ?_
        refine .seq ?_
        refine .seq ?_
        refine run_reg ?_
        refine e_end ?_
        refine g_v0 (.int .i64 0) rfl rfl ?_
        refine g_end ?_
        refine e_end ?_
        refine renew [(1, (Enc.enc (set_2 : List Int))), (2, (.ref (.bx 2) 0 [] (.agg [(.int .i64 g_1.1), (Enc.enc (g_1.2 : List (Int × Int)))]))), (4, (.sl .nl (Enc.shp (List Int)) 0 [])), (5, (encO (.at 5 []) (.of (out_16 : List (List Int))))), (6, (Enc.enc (seen_17 : List Int))), (7, (.int .i64 i_18)), (8, (Enc.enc (r_35 : List Int))), (9, (.int .i64 0))] ⟨h1, h2, h4, h5, h6, h7, h8, rfl⟩ ?_
        rintro s ⟨h1, h2, h4, h5, h6, h7, h8, h9⟩
        refine .nsq ?_
        refine .block ?_
        refine .loop ?_
        exact t_f90_l1 H set_2 g_1 out_16 i_18 r_35 (s_l2Parts_l2 F set_2 g_1 k) ih F seen_17 0 _ ⟨h1, h2, h4, h5, h6, h7, h8, h9⟩ h
    · refine .exit ?_
      refine .esq ?_
      refine .elp ?_
      refine .ebk ?_
      refine .nsq ?_
      refine .seq ?_
      refine run_reg ?_
      refine e_end ?_
      refine g_v1 (t := 5) (u := (encO (.at 5 []) (.of (out_16 : List (List Int))))) (encO (.at 5 []) (.of (out_16 : List (List Int)))) h5 rfl rfl ?_
      refine g_v1 (t := 47) (u := (encO (.at 5 []) (.of (out_16 : List (List Int))))) (encO (.at 5 []) (.of (out_16 : List (List Int)))) rfl rfl rfl ?_
      refine g_end ?_
      refine e_home (r := 5) (x := 4) (v := (encO (.at 5 []) (.of (out_16 : List (List Int))))) (by exact rfl) rfl (fun s_24 hg_24 => ?_)
      refine e_end ?_
      refine renew [(4, (encO (.at 4 []) (.of (out_16 : List (List Int)))))] (hg_24 4 (encO (.at 5 []) (.of (out_16 : List (List Int)))) (encO (.at 4 []) (.of (out_16 : List (List Int)))) rfl (map_encO (r := 5) (p := []) rfl rfl)) ?_
      rintro s h4
      refine .nsq ?_
      refine .ret ?_
      have hr := Option.some.inj h
      subst hr
      exact rrA (res_tmp h4) (fin_ret1 (fin_own (o := .of out_16)))
def s_l2Parts (F : Nat) (g_1 : (Int × (List (Int × Int)))) (set_2 : (List Int)) : Option (List (List Int)) :=
  s_l2Parts_l2 F set_2 g_1 F [] [] 0
theorem t90 (H : H90 D σ F) (g_1 : (Int × (List (Int × Int)))) (set_2 : (List Int)) (s : Nat → V) (hs : Facts [(0, (.agg [(.int .i64 g_1.1), (Enc.enc (g_1.2 : List (Int × Int)))])), (1, (Enc.enc (set_2 : List Int)))] s) (h : s_l2Parts F g_1 set_2 = some r) : Run D σ (R90 r) (.run A90 []) s := by
  unfold s_l2Parts at h
  obtain ⟨h0, h1⟩ := hs
  refine .seq ?_
  refine run_reg ?_
  refine e_clr ?_
  refine e_end ?_
  refine g_box (.agg [(.int .i64 g_1.1), (Enc.enc (g_1.2 : List (Int × Int)))]) (rd_of (keep_clear (s := s) (pk := [2]) h0 rfl (map_agg (maps_cons rfl (maps_cons (Enc.map_enc _ (g_1.2 : List (Int × Int))) maps_nil)))) rfl) (gone_clear (s := s) (pk := [2]) (t := 2) rfl) rfl ?_
  refine g_v0 (.sl .nl (Enc.shp (List Int)) 0 []) rfl rfl ?_
  refine g_end ?_
  refine e_end ?_
  refine renew [(1, (Enc.enc (set_2 : List Int))), (2, (.ref (.bx 2) 0 [] (.agg [(.int .i64 g_1.1), (Enc.enc (g_1.2 : List (Int × Int)))]))), (4, (.sl .nl (Enc.shp (List Int)) 0 []))] ⟨(keep_clear (s := s) (pk := [2]) h1 rfl (Enc.map_enc _ (set_2 : List Int))), rfl, rfl⟩ ?_
  rintro s ⟨h1, h2, h4⟩
  refine .nsq ?_
  refine .seq ?_
  refine run_reg ?_
  refine e_clr ?_
  refine e_end ?_
  refine g_litL [] [] trivial rfl rfl (gone_clear (s := s) (pk := [10, 11]) (t := 10) rfl) ?_
  refine g_litL [] [] trivial rfl rfl (gone_clear (s := s) (pk := [10, 11]) (t := 11) rfl) ?_
  refine g_v1 (t := 10) (u := (encO (.at 10 []) (.of ([] : List (List Int))))) (encO (.at 10 []) (.of ([] : List (List Int)))) rfl rfl rfl ?_
  refine g_v1 (t := 11) (u := (encO (.at 11 []) (.of ([] : List Int)))) (encO (.at 11 []) (.of ([] : List Int))) rfl rfl rfl ?_
  refine g_end ?_
  refine e_home (r := 10) (x := 5) (v := (encO (.at 10 []) (.of ([] : List (List Int))))) (by exact rfl) rfl (fun s_3 hg_3 => ?_)
  refine e_home (r := 11) (x := 6) (v := (encO (.at 11 []) (.of ([] : List Int)))) (by exact (hg_3 6 (encO (.at 11 []) (.of ([] : List Int))) (encO (.at 11 []) (.of ([] : List Int))) rfl (map_encO (r := 11) (p := []) rfl rfl))) rfl (fun s_4 hg_4 => ?_)
  refine e_end ?_
  refine renew [(1, (Enc.enc (set_2 : List Int))), (2, (.ref (.bx 2) 0 [] (.agg [(.int .i64 g_1.1), (Enc.enc (g_1.2 : List (Int × Int)))]))), (4, (.sl .nl (Enc.shp (List Int)) 0 [])), (5, (encO (.at 5 []) (.of ([] : List (List Int))))), (6, (encO (.at 6 []) (.of ([] : List Int))))] ⟨(hg_4 1 (Enc.enc (set_2 : List Int)) (Enc.enc (set_2 : List Int)) (hg_3 1 (Enc.enc (set_2 : List Int)) (Enc.enc (set_2 : List Int)) (keep_clear (s := s) (pk := [10, 11]) h1 rfl (Enc.map_enc _ (set_2 : List Int))) (Enc.map_enc _ (set_2 : List Int))) (Enc.map_enc _ (set_2 : List Int))), (hg_4 2 (.ref (.bx 2) 0 [] (.agg [(.int .i64 g_1.1), (Enc.enc (g_1.2 : List (Int × Int)))])) (.ref (.bx 2) 0 [] (.agg [(.int .i64 g_1.1), (Enc.enc (g_1.2 : List (Int × Int)))])) (hg_3 2 (.ref (.bx 2) 0 [] (.agg [(.int .i64 g_1.1), (Enc.enc (g_1.2 : List (Int × Int)))])) (.ref (.bx 2) 0 [] (.agg [(.int .i64 g_1.1), (Enc.enc (g_1.2 : List (Int × Int)))])) (keep_clear (s := s) (pk := [10, 11]) h2 rfl (map_bx rfl (map_agg (maps_cons rfl (maps_cons (Enc.map_enc _ (g_1.2 : List (Int × Int))) maps_nil))))) (map_bx rfl (map_agg (maps_cons rfl (maps_cons (Enc.map_enc _ (g_1.2 : List (Int × Int))) maps_nil))))) (map_bx rfl (map_agg (maps_cons rfl (maps_cons (Enc.map_enc _ (g_1.2 : List (Int × Int))) maps_nil))))), (hg_4 4 (.sl .nl (Enc.shp (List Int)) 0 []) (.sl .nl (Enc.shp (List Int)) 0 []) (hg_3 4 (.sl .nl (Enc.shp (List Int)) 0 []) (.sl .nl (Enc.shp (List Int)) 0 []) (keep_clear (s := s) (pk := [10, 11]) h4 rfl rfl) rfl) rfl), (hg_4 5 (encO (.at 5 []) (.of ([] : List (List Int)))) (encO (.at 5 []) (.of ([] : List (List Int)))) (hg_3 5 (encO (.at 10 []) (.of ([] : List (List Int)))) (encO (.at 5 []) (.of ([] : List (List Int)))) rfl (map_encO (r := 10) (p := []) rfl rfl)) (map_encO (r := 5) (p := []) rfl rfl)), (hg_4 6 (encO (.at 11 []) (.of ([] : List Int))) (encO (.at 6 []) (.of ([] : List Int))) (hg_3 6 (encO (.at 11 []) (.of ([] : List Int))) (encO (.at 11 []) (.of ([] : List Int))) rfl (map_encO (r := 11) (p := []) rfl rfl)) (map_encO (r := 11) (p := []) rfl rfl))⟩ ?_
  rintro s ⟨h1, h2, h4, h5, h6⟩
  refine .nsq ?_
  refine .seq ?_
  refine .seq ?_
  refine run_reg ?_
  refine e_end ?_
  refine g_v0 (.int .i64 0) rfl rfl ?_
  refine g_end ?_
  refine e_frz (x := 6) (v := (encO (.at 6 []) (.of ([] : List Int)))) [(.at 6 [])] (by exact h6) toks_ownL (fun s_5 hg_5 => ?_)
  refine e_end ?_
  refine renew [(1, (Enc.enc (set_2 : List Int))), (2, (.ref (.bx 2) 0 [] (.agg [(.int .i64 g_1.1), (Enc.enc (g_1.2 : List (Int × Int)))]))), (4, (.sl .nl (Enc.shp (List Int)) 0 [])), (5, (encO (.at 5 []) (.of ([] : List (List Int))))), (6, (Enc.enc ([] : List Int))), (7, (.int .i64 0))] ⟨(hg_5 1 (Enc.enc (set_2 : List Int)) (Enc.enc (set_2 : List Int)) h1 (Enc.frz_enc _ (set_2 : List Int))), (hg_5 2 (.ref (.bx 2) 0 [] (.agg [(.int .i64 g_1.1), (Enc.enc (g_1.2 : List (Int × Int)))])) (.ref (.bx 2) 0 [] (.agg [(.int .i64 g_1.1), (Enc.enc (g_1.2 : List (Int × Int)))])) h2 (frz_ref_ne rfl (frz_agg (frzs_cons rfl (frzs_cons (Enc.frz_enc _ (g_1.2 : List (Int × Int))) rfl))) rfl)), (hg_5 4 (.sl .nl (Enc.shp (List Int)) 0 []) (.sl .nl (Enc.shp (List Int)) 0 []) h4 rfl), (hg_5 5 (encO (.at 5 []) (.of ([] : List (List Int)))) (encO (.at 5 []) (.of ([] : List (List Int)))) h5 (frz_own_ne rfl rfl)), (hg_5 6 (encO (.at 6 []) (.of ([] : List Int))) (Enc.enc ([] : List Int)) h6 frz_own), (hg_5 7 (.int .i64 0) (.int .i64 0) rfl rfl)⟩ ?_
  rintro s ⟨h1, h2, h4, h5, h6, h7⟩
  refine .nsq ?_
  refine .block ?_
  refine .loop ?_
  exact t_f90_l2 H set_2 g_1 F [] [] 0 _ ⟨h1, h2, h4, h5, h6, h7⟩ h
end
def e90 (F : Nat) : Ent := ⟨90, da (fun (x : ((Int × (List (Int × Int))) × (List Int) × Unit)) => s_l2Parts F x.1 x.2.1) (fun (r : (List (List Int))) => (Enc.enc (r : (List (List Int))))), 0, true, selF []⟩
theorem p90 {F : Nat} {x0 : (Int × (List (Int × Int)))} {x1 : (List Int)} {r : (List (List Int))} (h : s_l2Parts F x0 x1 = some r) : (e90 F).den [Enc.enc x0, Enc.enc x1] = some (Enc.enc (r : (List (List Int)))) := da_put (f := fun (x : ((Int × (List (Int × Int))) × (List Int) × Unit)) => s_l2Parts F x.1 x.2.1) (t := fun (r : (List (List Int))) => (Enc.enc (r : (List (List Int))))) (x0, x1, ()) h
theorem o90 {D : Den} {σ : Sig} {F : Nat} (hF : Fits2 Try.prog D σ) (H : H90 D σ F) : (e90 F).Ok Try.prog := by
  refine ⟨fun args r h => ?_, ⟨Try.f90, Try.func90, rfl, rfl⟩⟩
  obtain ⟨⟨x0, x1, _⟩, y, rfl, hy, rfl⟩ := da_open h
  exact contract_run hF (by kernel_rfl) Try.func90 rfl c90 (show 2 ≤ Try.f90.ntmps by decide) (t90 H x0 x1 _ ⟨rfl, rfl⟩ hy)
/- loop.example/g01109/spec.l5Touch -/
def A91_2 : AC := (AC.cond (O.t 12) AC.skip (AC.exit 0))
def A91_6 : AC := (AC.cond (O.t 18) AC.skip (AC.exit 2))
def A91_8 : AC := (AC.cond (O.t 41) (AC.seq (AC.reg [] [(I.mk (some 6) none false (X.v (A.mov (O.k (V.bool true)))))] []) AC.ret) AC.skip)
def A91_9 : AC := (AC.reg [] [(I.mk (some 19) none false (X.v (A.mov (O.t 8)))), (I.mk (some 20) none false (X.v (A.bin BinOp.add (O.t 19) (O.k (V.int IntKind.i64 (Int.ofNat 1)))))), (I.mk (some 8) none false (X.v (A.mov (O.t 20))))] [])
def A91_7 : AC := (AC.seq (AC.block 3 (AC.seq (AC.reg [] [(I.mk (some 21) none false (X.v (A.mov (O.t 1)))), (I.mk (some 22) none false (X.v (A.mov (O.t 7)))), (I.mk (some 23) none false (X.v (A.idx (O.t 21) (O.t 22) 1))), (I.mk (some 24) none false (X.v (A.load Sh.s (O.t 23)))), (I.mk (some 25) none false (X.v (A.mov (O.t 2)))), (I.mk (some 26) none false (X.v (A.mov (O.t 8)))), (I.mk (some 27) none false (X.v (A.idx (O.t 25) (O.t 26) 1))), (I.mk (some 28) none false (X.v (A.load Sh.s (O.t 27)))), (I.mk (some 29) none false (X.v (A.bin BinOp.eql (O.t 24) (O.t 28)))), (I.mk (some 30) none false (X.v (A.mov (O.t 29)))), (I.mk (some 31) (some (30, false)) false (X.v (A.load (Sh.ag [Sh.s, Sh.p]) (O.t 3)))), (I.mk (some 32) (some (30, false)) false (X.v (A.mov (O.t 1)))), (I.mk (some 33) (some (30, false)) false (X.v (A.mov (O.t 7)))), (I.mk (some 34) (some (30, false)) false (X.v (A.idx (O.t 32) (O.t 33) 1))), (I.mk (some 35) (some (30, false)) false (X.v (A.load Sh.s (O.t 34)))), (I.mk (some 36) (some (30, false)) false (X.v (A.mov (O.t 2)))), (I.mk (some 37) (some (30, false)) false (X.v (A.mov (O.t 8)))), (I.mk (some 38) (some (30, false)) false (X.v (A.idx (O.t 36) (O.t 37) 1))), (I.mk (some 39) (some (30, false)) false (X.v (A.load Sh.s (O.t 38)))), (I.mk (some 40) (some (30, false)) false (X.call (O.k (V.fn 122 [] [])) [(O.t 31), (O.t 35), (O.t 39)])), (I.mk (some 41) none false (X.v (A.pick (O.t 30) (O.k (V.bool true)) (O.t 40))))] []) A91_8)) A91_9)
def A91_5 : AC := (AC.seq (AC.seq (AC.reg [] [(I.mk (some 15) none false (X.v (A.mov (O.t 8)))), (I.mk (some 16) none false (X.v (A.mov (O.t 2)))), (I.mk (some 17) none false (X.v (A.len (O.t 16)))), (I.mk (some 18) none false (X.v (A.bin BinOp.lss (O.t 15) (O.t 17))))] []) A91_6) A91_7)
def A91_4 : AC := (AC.block 2 (AC.loop A91_5))
def A91_10 : AC := (AC.reg [] [(I.mk (some 13) none false (X.v (A.mov (O.t 7)))), (I.mk (some 14) none false (X.v (A.bin BinOp.add (O.t 13) (O.k (V.int IntKind.i64 (Int.ofNat 1)))))), (I.mk (some 7) none false (X.v (A.mov (O.t 14))))] [])
def A91_3 : AC := (AC.seq (AC.block 1 (AC.seq (AC.reg [] [(I.mk (some 8) none false (X.v (A.mov (O.k (V.int IntKind.i64 (Int.ofNat 0))))))] []) A91_4)) A91_10)
def A91_1 : AC := (AC.seq (AC.seq (AC.reg [] [(I.mk (some 9) none false (X.v (A.mov (O.t 7)))), (I.mk (some 10) none false (X.v (A.mov (O.t 1)))), (I.mk (some 11) none false (X.v (A.len (O.t 10)))), (I.mk (some 12) none false (X.v (A.bin BinOp.lss (O.t 9) (O.t 11))))] []) A91_2) A91_3)
def A91_11 : AC := (AC.seq (AC.reg [] [(I.mk (some 6) none false (X.v (A.mov (O.k (V.bool false)))))] []) AC.ret)
def A91_13 : AC := (AC.block 0 (AC.loop A91_1))
def A91_12 : AC := (AC.seq (AC.seq (AC.reg [] [(I.mk (some 7) none false (X.v (A.mov (O.k (V.int IntKind.i64 (Int.ofNat 0))))))] []) A91_13) A91_11)
def A91 : AC := (AC.seq (AC.reg [.clr [3]] [(I.mk (some 3) none false (X.box (O.t 0))), (I.mk (some 6) none false (X.v (A.mov (O.k (V.bool false)))))] []) A91_12)
def an91 : List An := [{ id := 0, pre := [.clr [3]], ep := [], lin := [], sp := [] }]
theorem c91 : cC Try.prog Try.f91.ntmps an91 (Try.f91.body.getD .skip) = some A91 := by kernel_rfl
structure H91 (D : Den) (σ : Sig) (F : Nat) : Prop where
  c122 : ∀ (x0 : (Int × (List (Int × Int)))) (x1 : Int) (x2 : Int) r, s_l2Near F x0 x1 x2 = some r → D 122 [Enc.enc x0, Enc.enc x1, Enc.enc x2] = some (Enc.enc (r : Bool))
  g122 : σ 122 = some (0, false)
abbrev R91 (r : Bool) : (Nat → V) → Prop := RR Try.prog [.tmp 6] 0 false (Enc.enc (r : Bool))
section
variable {D : Den} {σ : Sig} {F : Nat} {r : Bool}
def s_l5Touch_j1 (F : Nat) (a_2 : (List Int)) (b_3 : (List Int)) (g_1 : (Int × (List (Int × Int)))) (i_38 : Int) (k_84 : Int) (c1 : Int → Option Bool) (c4 : Int → Option Bool) (t41_101 : Bool) : Option Bool :=
  bif t41_101 then
    some true
  else
    c4 (w64 (k_84 + 1))
theorem t_f91_j1 (H : H91 D σ F) (a_2 : (List Int)) (b_3 : (List Int)) (g_1 : (Int × (List (Int × Int)))) (i_38 : Int) (k_84 : Int) (c1 : Int → Option Bool) (Hc1 : ∀ (i_38 : Int) (s : Nat → V), Facts [(1, (Enc.enc (a_2 : List Int))), (2, (Enc.enc (b_3 : List Int))), (3, (.ref (.bx 3) 0 [] (.agg [(.int .i64 g_1.1), (Enc.enc (g_1.2 : List (Int × Int)))]))), (6, (.bool false)), (7, (.int .i64 i_38))] s → c1 i_38 = some r → Run D σ (R91 r) (.run A91_1 [.lp A91_1, .bk 0, .sq A91_11]) s) (c4 : Int → Option Bool) (Hc4 : ∀ (k_84 : Int) (s : Nat → V), Facts [(1, (Enc.enc (a_2 : List Int))), (2, (Enc.enc (b_3 : List Int))), (3, (.ref (.bx 3) 0 [] (.agg [(.int .i64 g_1.1), (Enc.enc (g_1.2 : List (Int × Int)))]))), (6, (.bool false)), (7, (.int .i64 i_38)), (8, (.int .i64 k_84))] s → c4 k_84 = some r → Run D σ (R91 r) (.run A91_5 [.lp A91_5, .bk 2, .bk 1, .sq A91_10, .lp A91_1, .bk 0, .sq A91_11]) s) (t41_101 : Bool) (s : Nat → V) (hs : Facts [(1, (Enc.enc (a_2 : List Int))), (2, (Enc.enc (b_3 : List Int))), (3, (.ref (.bx 3) 0 [] (.agg [(.int .i64 g_1.1), (Enc.enc (g_1.2 : List (Int × Int)))]))), (6, (.bool false)), (7, (.int .i64 i_38)), (8, (.int .i64 k_84)), (41, (.bool t41_101))] s) (h : s_l5Touch_j1 F a_2 b_3 g_1 i_38 k_84 c1 c4 t41_101 = some r) : Run D σ (R91 r) (.nrm [.sq A91_8, .bk 3, .sq A91_9, .lp A91_5, .bk 2, .bk 1, .sq A91_10, .lp A91_1, .bk 0, .sq A91_11]) s := by
  unfold s_l5Touch_j1 at h
  obtain ⟨h1, h2, h3, h6, h7, h8, h41⟩ := hs
  refine .nsq ?_
  refine run_cond (t := t41_101) h41 h (fun h => ?_) (fun h => ?_)
  · refine .seq ?_
    refine run_reg ?_
    refine e_end ?_
    refine g_v0 (.bool true) rfl rfl ?_
    refine g_end ?_
    refine e_end ?_
    refine renew [(1, (Enc.enc (a_2 : List Int))), (2, (Enc.enc (b_3 : List Int))), (3, (.ref (.bx 3) 0 [] (.agg [(.int .i64 g_1.1), (Enc.enc (g_1.2 : List (Int × Int)))]))), (6, (.bool true)), (7, (.int .i64 i_38)), (8, (.int .i64 k_84))] ⟨h1, h2, h3, rfl, h7, h8⟩ ?_
    rintro s ⟨h1, h2, h3, h6, h7, h8⟩
    refine .nsq ?_
    refine .ret ?_
    have hr := Option.some.inj h
    subst hr
    exact rrA (res_tmp h6) rfl
  · refine .skip ?_
    refine .nbk ?_
    refine .nsq ?_
    refine run_reg ?_
    refine e_end ?_
    refine g_v1 (t := 8) (u := (.int .i64 k_84)) (.int .i64 k_84) h8 rfl rfl ?_
    refine g_v1 (t := 19) (u := (.int .i64 k_84)) (.int .i64 (w64 (k_84 + 1))) rfl rfl rfl ?_
    refine g_v1 (t := 20) (u := (.int .i64 (w64 (k_84 + 1)))) (.int .i64 (w64 (k_84 + 1))) rfl rfl rfl ?_
    refine g_end ?_
    refine e_end ?_
    refine renew [(1, (Enc.enc (a_2 : List Int))), (2, (Enc.enc (b_3 : List Int))), (3, (.ref (.bx 3) 0 [] (.agg [(.int .i64 g_1.1), (Enc.enc (g_1.2 : List (Int × Int)))]))), (6, (.bool false)), (7, (.int .i64 i_38)), (8, (.int .i64 (w64 (k_84 + 1))))] ⟨h1, h2, h3, h6, h7, rfl⟩ ?_
    rintro s ⟨h1, h2, h3, h6, h7, h8⟩
    refine .nlp ?_
    exact Hc4 (w64 (k_84 + 1)) _ ⟨h1, h2, h3, h6, h7, h8⟩ h
def s_l5Touch_l1 (F : Nat) (a_2 : (List Int)) (b_3 : (List Int)) (g_1 : (Int × (List (Int × Int)))) (i_38 : Int) (c1 : Int → Option Bool) : Nat → Int → Option Bool
  | 0, _ => none
  | k + 1, k_84 =>
    bif decide (k_84 < (b_3.length : Int)) then
      (idx a_2 i_38).bind fun e_102 =>
      (idx b_3 k_84).bind fun e_103 =>
      bif (e_102 == e_103) then
        s_l5Touch_j1 F a_2 b_3 g_1 i_38 k_84 c1 (s_l5Touch_l1 F a_2 b_3 g_1 i_38 c1 k) true
      else
        (idx a_2 i_38).bind fun e_104 =>
        (idx b_3 k_84).bind fun e_105 =>
        (s_l2Near F g_1 e_104 e_105).bind fun r_106 =>
        s_l5Touch_j1 F a_2 b_3 g_1 i_38 k_84 c1 (s_l5Touch_l1 F a_2 b_3 g_1 i_38 c1 k) r_106
    else
      c1 (w64 (i_38 + 1))
theorem t_f91_l1 (H : H91 D σ F) (a_2 : (List Int)) (b_3 : (List Int)) (g_1 : (Int × (List (Int × Int)))) (i_38 : Int) (c1 : Int → Option Bool) (Hc1 : ∀ (i_38 : Int) (s : Nat → V), Facts [(1, (Enc.enc (a_2 : List Int))), (2, (Enc.enc (b_3 : List Int))), (3, (.ref (.bx 3) 0 [] (.agg [(.int .i64 g_1.1), (Enc.enc (g_1.2 : List (Int × Int)))]))), (6, (.bool false)), (7, (.int .i64 i_38))] s → c1 i_38 = some r → Run D σ (R91 r) (.run A91_1 [.lp A91_1, .bk 0, .sq A91_11]) s) : ∀ (k : Nat) (k_84 : Int) (s : Nat → V), Facts [(1, (Enc.enc (a_2 : List Int))), (2, (Enc.enc (b_3 : List Int))), (3, (.ref (.bx 3) 0 [] (.agg [(.int .i64 g_1.1), (Enc.enc (g_1.2 : List (Int × Int)))]))), (6, (.bool false)), (7, (.int .i64 i_38)), (8, (.int .i64 k_84))] s → s_l5Touch_l1 F a_2 b_3 g_1 i_38 c1 k k_84 = some r → Run D σ (R91 r) (.run A91_5 [.lp A91_5, .bk 2, .bk 1, .sq A91_10, .lp A91_1, .bk 0, .sq A91_11]) s := by
  intro k
  induction k with
  | zero => intro k_84 s _ h; exact nomatch (h : (none : Option _) = some r)
  | succ k ih =>
    intro k_84 s hs h
    rw [s_l5Touch_l1] at h
    obtain ⟨h1, h2, h3, h6, h7, h8⟩ := hs
    refine .seq ?_
    refine .seq ?_
    refine run_reg ?_
    refine e_end ?_
    refine g_v1 (t := 8) (u := (.int .i64 k_84)) (.int .i64 k_84) h8 rfl rfl ?_
    refine g_v1 (t := 2) (u := (Enc.enc (b_3 : List Int))) (Enc.enc (b_3 : List Int)) h2 rfl rfl ?_
    refine g_v (.int .i64 (b_3.length : Int)) (ev_len (xs := b_3) rfl) ?_
    refine g_v2 (t1 := 15) (t2 := 17) (u1 := (.int .i64 k_84)) (u2 := (.int .i64 (b_3.length : Int))) (.bool (decide (k_84 < (b_3.length : Int)))) rfl rfl rfl rfl ?_
    refine g_end ?_
    refine e_end ?_
    refine renew [(1, (Enc.enc (a_2 : List Int))), (2, (Enc.enc (b_3 : List Int))), (3, (.ref (.bx 3) 0 [] (.agg [(.int .i64 g_1.1), (Enc.enc (g_1.2 : List (Int × Int)))]))), (6, (.bool false)), (7, (.int .i64 i_38)), (8, (.int .i64 k_84)), (18, (.bool (decide (k_84 < (b_3.length : Int)))))] ⟨h1, h2, h3, h6, h7, h8, rfl⟩ ?_
    rintro s ⟨h1, h2, h3, h6, h7, h8, h18⟩
    refine .nsq ?_
    refine run_cond (t := decide (k_84 < (b_3.length : Int))) h18 h (fun h => ?_) (fun h => ?_)
    · refine .skip ?_
      refine .nsq ?_
      refine .seq ?_
      refine .block ?_
      refine .seq ?_
      refine run_reg ?_
      refine e_end ?_
      refine g_v1 (t := 1) (u := (Enc.enc (a_2 : List Int))) (Enc.enc (a_2 : List Int)) h1 rfl rfl ?_
      refine g_v1 (t := 7) (u := (.int .i64 i_38)) (.int .i64 i_38) h7 rfl rfl ?_
      obtain ⟨e_102, E_e_102, h⟩ := bind_some h
      refine g_v (.ref .sh 0 [] (.int .i64 e_102)) (ev_idx (t := .sh) (lo := 0) (xs := a_2) rfl rfl E_e_102 rfl rfl) ?_
      refine g_v1 (t := 23) (u := (.ref .sh 0 [] (.int .i64 e_102))) (.int .i64 e_102) rfl rfl rfl ?_
      refine g_v1 (t := 2) (u := (Enc.enc (b_3 : List Int))) (Enc.enc (b_3 : List Int)) h2 rfl rfl ?_
      refine g_v1 (t := 8) (u := (.int .i64 k_84)) (.int .i64 k_84) h8 rfl rfl ?_
      obtain ⟨e_103, E_e_103, h⟩ := bind_some h
      refine g_v (.ref .sh 0 [] (.int .i64 e_103)) (ev_idx (t := .sh) (lo := 0) (xs := b_3) rfl rfl E_e_103 rfl rfl) ?_
      refine g_v1 (t := 27) (u := (.ref .sh 0 [] (.int .i64 e_103))) (.int .i64 e_103) rfl rfl rfl ?_
      refine g_v2 (t1 := 24) (t2 := 28) (u1 := (.int .i64 e_102)) (u2 := (.int .i64 e_103)) (.bool (e_102 == e_103)) rfl rfl rfl rfl ?_
      refine g_v1 (t := 29) (u := (.bool (e_102 == e_103))) (.bool (e_102 == e_103)) rfl rfl rfl ?_
      refine split_on (c := (e_102 == e_103)) h (fun hg10 h => ?_) (fun hg10 h => ?_)
      · refine g_no (Eq.trans (b := .bool (e_102 == e_103)) rfl (congrArg V.bool hg10)) ?_
        refine g_no (Eq.trans (b := .bool (e_102 == e_103)) rfl (congrArg V.bool hg10)) ?_
        refine g_no (Eq.trans (b := .bool (e_102 == e_103)) rfl (congrArg V.bool hg10)) ?_
        refine g_no (Eq.trans (b := .bool (e_102 == e_103)) rfl (congrArg V.bool hg10)) ?_
        refine g_no (Eq.trans (b := .bool (e_102 == e_103)) rfl (congrArg V.bool hg10)) ?_
        refine g_no (Eq.trans (b := .bool (e_102 == e_103)) rfl (congrArg V.bool hg10)) ?_
        refine g_no (Eq.trans (b := .bool (e_102 == e_103)) rfl (congrArg V.bool hg10)) ?_
        refine g_no (Eq.trans (b := .bool (e_102 == e_103)) rfl (congrArg V.bool hg10)) ?_
        refine g_no (Eq.trans (b := .bool (e_102 == e_103)) rfl (congrArg V.bool hg10)) ?_
        refine g_no (Eq.trans (b := .bool (e_102 == e_103)) rfl (congrArg V.bool hg10)) ?_
        refine g_v2 (t1 := 30) (t2 := 40) (u1 := (.bool true)) (u2 := (.tup [])) (.bool true) (Eq.trans (b := .bool (e_102 == e_103)) rfl (congrArg V.bool hg10)) rfl rfl rfl ?_
        refine g_end ?_
        refine e_end ?_
        refine renew [(1, (Enc.enc (a_2 : List Int))), (2, (Enc.enc (b_3 : List Int))), (3, (.ref (.bx 3) 0 [] (.agg [(.int .i64 g_1.1), (Enc.enc (g_1.2 : List (Int × Int)))]))), (6, (.bool false)), (7, (.int .i64 i_38)), (8, (.int .i64 k_84)), (41, (.bool true))] ⟨h1, h2, h3, h6, h7, h8, rfl⟩ ?_
        rintro s ⟨h1, h2, h3, h6, h7, h8, h41⟩
        exact t_f91_j1 H a_2 b_3 g_1 i_38 k_84 c1 Hc1 (s_l5Touch_l1 F a_2 b_3 g_1 i_38 c1 k) ih true _ ⟨h1, h2, h3, h6, h7, h8, h41⟩ h
      · refine g_yes (Eq.trans (b := .bool (e_102 == e_103)) rfl (congrArg V.bool hg10)) (g_v1 (t := 3) (u := (.ref (.bx 3) 0 [] (.agg [(.int .i64 g_1.1), (Enc.enc (g_1.2 : List (Int × Int)))]))) (.agg [(.int .i64 g_1.1), (Enc.enc (g_1.2 : List (Int × Int)))]) h3 rfl rfl ?_)
        refine g_yes (Eq.trans (b := .bool (e_102 == e_103)) rfl (congrArg V.bool hg10)) (g_v1 (t := 1) (u := (Enc.enc (a_2 : List Int))) (Enc.enc (a_2 : List Int)) h1 rfl rfl ?_)
        refine g_yes (Eq.trans (b := .bool (e_102 == e_103)) rfl (congrArg V.bool hg10)) (g_v1 (t := 7) (u := (.int .i64 i_38)) (.int .i64 i_38) h7 rfl rfl ?_)
        obtain ⟨e_104, E_e_104, h⟩ := bind_some h
        refine g_yes (Eq.trans (b := .bool (e_102 == e_103)) rfl (congrArg V.bool hg10)) (g_v (.ref .sh 0 [] (.int .i64 e_104)) (ev_idx (t := .sh) (lo := 0) (xs := a_2) rfl rfl E_e_104 rfl rfl) ?_)
        refine g_yes (Eq.trans (b := .bool (e_102 == e_103)) rfl (congrArg V.bool hg10)) (g_v1 (t := 34) (u := (.ref .sh 0 [] (.int .i64 e_104))) (.int .i64 e_104) rfl rfl rfl ?_)
        refine g_yes (Eq.trans (b := .bool (e_102 == e_103)) rfl (congrArg V.bool hg10)) (g_v1 (t := 2) (u := (Enc.enc (b_3 : List Int))) (Enc.enc (b_3 : List Int)) h2 rfl rfl ?_)
        refine g_yes (Eq.trans (b := .bool (e_102 == e_103)) rfl (congrArg V.bool hg10)) (g_v1 (t := 8) (u := (.int .i64 k_84)) (.int .i64 k_84) h8 rfl rfl ?_)
        obtain ⟨e_105, E_e_105, h⟩ := bind_some h
        refine g_yes (Eq.trans (b := .bool (e_102 == e_103)) rfl (congrArg V.bool hg10)) (g_v (.ref .sh 0 [] (.int .i64 e_105)) (ev_idx (t := .sh) (lo := 0) (xs := b_3) rfl rfl E_e_105 rfl rfl) ?_)
        refine g_yes (Eq.trans (b := .bool (e_102 == e_103)) rfl (congrArg V.bool hg10)) (g_v1 (t := 38) (u := (.ref .sh 0 [] (.int .i64 e_105))) (.int .i64 e_105) rfl rfl rfl ?_)
        obtain ⟨r_106, E_r_106, h⟩ := bind_some h
        refine g_yes (Eq.trans (b := .bool (e_102 == e_103)) rfl (congrArg V.bool hg10)) (g_call (m := 0) (al := false) (r := (Enc.enc (r_106 : Bool))) [Enc.enc (g_1 : (Int × (List (Int × Int)))), Enc.enc (e_104 : Int), Enc.enc (e_105 : Int)] (ta_cons (v := (.agg [(.int .i64 g_1.1), (Enc.enc (g_1.2 : List (Int × Int)))])) rfl rfl (Enc.erase_enc (g_1 : (Int × (List (Int × Int))))) (ta_cons (v := (.int .i64 e_104)) rfl rfl rfl (ta_cons (v := (.int .i64 e_105)) rfl rfl rfl ta_nil))) (H.c122 _ _ _ _ E_r_106) H.g122 rfl rfl rfl rfl ?_)
        refine g_v2 (t1 := 30) (t2 := 40) (u1 := (.bool false)) (u2 := (.bool r_106)) (.bool r_106) (Eq.trans (b := .bool (e_102 == e_103)) rfl (congrArg V.bool hg10)) rfl rfl rfl ?_
        refine g_end ?_
        refine e_end ?_
        refine renew [(1, (Enc.enc (a_2 : List Int))), (2, (Enc.enc (b_3 : List Int))), (3, (.ref (.bx 3) 0 [] (.agg [(.int .i64 g_1.1), (Enc.enc (g_1.2 : List (Int × Int)))]))), (6, (.bool false)), (7, (.int .i64 i_38)), (8, (.int .i64 k_84)), (41, (.bool r_106))] ⟨h1, h2, h3, h6, h7, h8, rfl⟩ ?_
        rintro s ⟨h1, h2, h3, h6, h7, h8, h41⟩
        exact t_f91_j1 H a_2 b_3 g_1 i_38 k_84 c1 Hc1 (s_l5Touch_l1 F a_2 b_3 g_1 i_38 c1 k) ih r_106 _ ⟨h1, h2, h3, h6, h7, h8, h41⟩ h
    · refine .exit ?_
      refine .esq ?_
      refine .elp ?_
      refine .ebk ?_
      refine .nbk ?_
      refine .nsq ?_
      refine run_reg ?_
      refine e_end ?_
      refine g_v1 (t := 7) (u := (.int .i64 i_38)) (.int .i64 i_38) h7 rfl rfl ?_
      refine g_v1 (t := 13) (u := (.int .i64 i_38)) (.int .i64 (w64 (i_38 + 1))) rfl rfl rfl ?_
      refine g_v1 (t := 14) (u := (.int .i64 (w64 (i_38 + 1)))) (.int .i64 (w64 (i_38 + 1))) rfl rfl rfl ?_
      refine g_end ?_
      refine e_end ?_
      refine renew [(1, (Enc.enc (a_2 : List Int))), (2, (Enc.enc (b_3 : List Int))), (3, (.ref (.bx 3) 0 [] (.agg [(.int .i64 g_1.1), (Enc.enc (g_1.2 : List (Int × Int)))]))), (6, (.bool false)), (7, (.int .i64 (w64 (i_38 + 1))))] ⟨h1, h2, h3, h6, rfl⟩ ?_
      rintro s ⟨h1, h2, h3, h6, h7⟩
      refine .nlp ?_
      exact Hc1 (w64 (i_38 + 1)) _ ⟨h1, h2, h3, h6, h7⟩ h
def s_l5Touch_l2 (F : Nat) (a_2 : (List Int)) (b_3 : (List Int)) (g_1 : (Int × (List (Int × Int))))  : Nat → Int → Option Bool
  | 0, _ => none
  | k + 1, i_38 =>
    bif decide (i_38 < (a_2.length : Int)) then
      s_l5Touch_l1 F a_2 b_3 g_1 i_38 (s_l5Touch_l2 F a_2 b_3 g_1 k) F 0
    else
      some false
theorem t_f91_l2 (H : H91 D σ F) (a_2 : (List Int)) (b_3 : (List Int)) (g_1 : (Int × (List (Int × Int))))  : ∀ (k : Nat) (i_38 : Int) (s : Nat → V), Facts [(1, (Enc.enc (a_2 : List Int))), (2, (Enc.enc (b_3 : List Int))), (3, (.ref (.bx 3) 0 [] (.agg [(.int .i64 g_1.1), (Enc.enc (g_1.2 : List (Int × Int)))]))), (6, (.bool false)), (7, (.int .i64 i_38))] s → s_l5Touch_l2 F a_2 b_3 g_1 k i_38 = some r → Run D σ (R91 r) (.run A91_1 [.lp A91_1, .bk 0, .sq A91_11]) s := by
  intro k
  induction k with
  | zero => intro i_38 s _ h; exact nomatch (h : (none : Option _) = some r)
  | succ k ih =>
    intro i_38 s hs h
    rw [s_l5Touch_l2] at h
    obtain ⟨h1, h2, h3, h6, h7⟩ := hs
    refine .seq ?_
    refine .seq ?_
    refine run_reg ?_
    refine e_end ?_
    refine g_v1 (t := 7) (u := (.int .i64 i_38)) (.int .i64 i_38) h7 rfl rfl ?_
    refine g_v1 (t := 1) (u := (Enc.enc (a_2 : List Int))) (Enc.enc (a_2 : List Int)) h1 rfl rfl ?_
    refine g_v (.int .i64 (a_2.length : Int)) (ev_len (xs := a_2) rfl) ?_
    refine g_v2 (t1 := 9) (t2 := 11) (u1 := (.int .i64 i_38)) (u2 := (.int .i64 (a_2.length : Int))) (.bool (decide (i_38 < (a_2.length : Int)))) rfl rfl rfl rfl ?_
    refine g_end ?_
    refine e_end ?_
    refine renew [(1, (Enc.enc (a_2 : List Int))), (2, (Enc.enc (b_3 : List Int))), (3, (.ref (.bx 3) 0 [] (.agg [(.int .i64 g_1.1), (Enc.enc (g_1.2 : List (Int × Int)))]))), (6, (.bool false)), (7, (.int .i64 i_38)), (12, (.bool (decide (i_38 < (a_2.length : Int)))))] ⟨h1, h2, h3, h6, h7, rfl⟩ ?_
    rintro s ⟨h1, h2, h3, h6, h7, h12⟩
    refine .nsq ?_
    refine run_cond (t := decide (i_38 < (a_2.length : Int))) h12 h (fun h => ?_) (fun h => ?_)
    · refine .skip ?_
      refine .nsq ?_
      refine .seq ?_
      refine .block ?_
      refine .seq ?_
      refine run_reg ?_
      refine e_end ?_
      refine g_v0 (.int .i64 0) rfl rfl ?_
      refine g_end ?_
      refine e_end ?_
      refine renew [(1, (Enc.enc (a_2 : List Int))), (2, (Enc.enc (b_3 : List Int))), (3, (.ref (.bx 3) 0 [] (.agg [(.int .i64 g_1.1), (Enc.enc (g_1.2 : List (Int × Int)))]))), (6, (.bool false)), (7, (.int .i64 i_38)), (8, (.int .i64 0))] ⟨h1, h2, h3, h6, h7, rfl⟩ ?_
      rintro s ⟨h1, h2, h3, h6, h7, h8⟩
      refine .nsq ?_
      refine .block ?_
      refine .loop ?_
      exact t_f91_l1 H a_2 b_3 g_1 i_38 (s_l5Touch_l2 F a_2 b_3 g_1 k) ih F 0 _ ⟨h1, h2, h3, h6, h7, h8⟩ h
    · refine .exit ?_
      refine .esq ?_
      refine .elp ?_
      refine .ebk ?_
      refine .nsq ?_
      refine .seq ?_
      refine run_reg ?_
      refine e_end ?_
      refine g_v0 (.bool false) rfl rfl ?_
      refine g_end ?_
      refine e_end ?_
      refine renew [(6, (.bool false))] rfl ?_
      rintro s h6
      refine .nsq ?_
      refine .ret ?_
      have hr := Option.some.inj h
      subst hr
      exact rrA (res_tmp h6) rfl
def s_l5Touch (F : Nat) (g_1 : (Int × (List (Int × Int)))) (a_2 : (List Int)) (b_3 : (List Int)) : Option Bool :=
  s_l5Touch_l2 F a_2 b_3 g_1 F 0
theorem t91 (H : H91 D σ F) (g_1 : (Int × (List (Int × Int)))) (a_2 : (List Int)) (b_3 : (List Int)) (s : Nat → V) (hs : Facts [(0, (.agg [(.int .i64 g_1.1), (Enc.enc (g_1.2 : List (Int × Int)))])), (1, (Enc.enc (a_2 : List Int))), (2, (Enc.enc (b_3 : List Int)))] s) (h : s_l5Touch F g_1 a_2 b_3 = some r) : Run D σ (R91 r) (.run A91 []) s := by
  unfold s_l5Touch at h
  obtain ⟨h0, h1, h2⟩ := hs
  refine .seq ?_
  refine run_reg ?_
  refine e_clr ?_
  refine e_end ?_
  refine g_box (.agg [(.int .i64 g_1.1), (Enc.enc (g_1.2 : List (Int × Int)))]) (rd_of (keep_clear (s := s) (pk := [3]) h0 rfl (map_agg (maps_cons rfl (maps_cons (Enc.map_enc _ (g_1.2 : List (Int × Int))) maps_nil)))) rfl) (gone_clear (s := s) (pk := [3]) (t := 3) rfl) rfl ?_
  refine g_v0 (.bool false) rfl rfl ?_
  refine g_end ?_
  refine e_end ?_
  refine renew [(1, (Enc.enc (a_2 : List Int))), (2, (Enc.enc (b_3 : List Int))), (3, (.ref (.bx 3) 0 [] (.agg [(.int .i64 g_1.1), (Enc.enc (g_1.2 : List (Int × Int)))]))), (6, (.bool false))] ⟨(keep_clear (s := s) (pk := [3]) h1 rfl (Enc.map_enc _ (a_2 : List Int))), (keep_clear (s := s) (pk := [3]) h2 rfl (Enc.map_enc _ (b_3 : List Int))), rfl, rfl⟩ ?_
  rintro s ⟨h1, h2, h3, h6⟩
  refine .nsq ?_
  refine .seq ?_
  refine .seq ?_
  refine run_reg ?_
  refine e_end ?_
  refine g_v0 (.int .i64 0) rfl rfl ?_
  refine g_end ?_
  refine e_end ?_
  refine renew [(1, (Enc.enc (a_2 : List Int))), (2, (Enc.enc (b_3 : List Int))), (3, (.ref (.bx 3) 0 [] (.agg [(.int .i64 g_1.1), (Enc.enc (g_1.2 : List (Int × Int)))]))), (6, (.bool false)), (7, (.int .i64 0))] ⟨h1, h2, h3, h6, rfl⟩ ?_
  rintro s ⟨h1, h2, h3, h6, h7⟩
  refine .nsq ?_
  refine .block ?_
  refine .loop ?_
  exact t_f91_l2 H a_2 b_3 g_1 F 0 _ ⟨h1, h2, h3, h6, h7⟩ h
end
def e91 (F : Nat) : Ent := ⟨91, da (fun (x : ((Int × (List (Int × Int))) × (List Int) × (List Int) × Unit)) => s_l5Touch F x.1 x.2.1 x.2.2.1) (fun (r : Bool) => (Enc.enc (r : Bool))), 0, false, selF []⟩
theorem p91 {F : Nat} {x0 : (Int × (List (Int × Int)))} {x1 : (List Int)} {x2 : (List Int)} {r : Bool} (h : s_l5Touch F x0 x1 x2 = some r) : (e91 F).den [Enc.enc x0, Enc.enc x1, Enc.enc x2] = some (Enc.enc (r : Bool)) := da_put (f := fun (x : ((Int × (List (Int × Int))) × (List Int) × (List Int) × Unit)) => s_l5Touch F x.1 x.2.1 x.2.2.1) (t := fun (r : Bool) => (Enc.enc (r : Bool))) (x0, x1, x2, ()) h
theorem o91 {D : Den} {σ : Sig} {F : Nat} (hF : Fits2 Try.prog D σ) (H : H91 D σ F) : (e91 F).Ok Try.prog := by
  refine ⟨fun args r h => ?_, ⟨Try.f91, Try.func91, rfl, rfl⟩⟩
  obtain ⟨⟨x0, x1, x2, _⟩, y, rfl, hy, rfl⟩ := da_open h
  exact contract_run hF (by kernel_rfl) Try.func91 rfl c91 (show 3 ≤ Try.f91.ntmps by decide) (t91 H x0 x1 x2 _ ⟨rfl, rfl, rfl⟩ hy)
/- loop.example/g01109/spec.l5Bramble -/
def A55_2 : AC := (AC.cond (O.t 10) AC.skip (AC.exit 0))
def A55_4 : AC := (AC.cond (O.t 29) (AC.seq (AC.reg [] [(I.mk (some 4) none false (X.v (A.mov (O.k (V.bool false)))))] []) AC.ret) AC.skip)
def A55_8 : AC := (AC.cond (O.t 32) AC.skip (AC.exit 2))
def A55_10 : AC := (AC.cond (O.t 45) (AC.seq (AC.reg [] [(I.mk (some 4) none false (X.v (A.mov (O.k (V.bool false)))))] []) AC.ret) AC.skip)
def A55_11 : AC := (AC.reg [] [(I.mk (some 33) none false (X.v (A.mov (O.t 6)))), (I.mk (some 34) none false (X.v (A.bin BinOp.add (O.t 33) (O.k (V.int IntKind.i64 (Int.ofNat 1)))))), (I.mk (some 6) none false (X.v (A.mov (O.t 34))))] [])
def A55_9 : AC := (AC.seq (AC.block 3 (AC.seq (AC.reg [] [(I.mk (some 35) none false (X.v (A.load (Sh.ag [Sh.s, Sh.p]) (O.t 2)))), (I.mk (some 36) none false (X.v (A.mov (O.t 1)))), (I.mk (some 37) none false (X.v (A.mov (O.t 6)))), (I.mk (some 38) none false (X.v (A.idx (O.t 36) (O.t 37) 1))), (I.mk (some 39) none false (X.v (A.load Sh.p (O.t 38)))), (I.mk (some 40) none false (X.v (A.mov (O.t 1)))), (I.mk (some 41) none false (X.v (A.mov (O.t 5)))), (I.mk (some 42) none false (X.v (A.idx (O.t 40) (O.t 41) 1))), (I.mk (some 43) none false (X.v (A.load Sh.p (O.t 42)))), (I.mk (some 44) none false (X.call (O.k (V.fn 91 [] [])) [(O.t 35), (O.t 39), (O.t 43)])), (I.mk (some 45) none false (X.v (A.un UnOp.not (O.t 44))))] []) A55_10)) A55_11)
def A55_7 : AC := (AC.seq (AC.seq (AC.reg [] [(I.mk (some 30) none false (X.v (A.mov (O.t 6)))), (I.mk (some 31) none false (X.v (A.mov (O.t 5)))), (I.mk (some 32) none false (X.v (A.bin BinOp.lss (O.t 30) (O.t 31))))] []) A55_8) A55_9)
def A55_6 : AC := (AC.block 2 (AC.loop A55_7))
def A55_5 : AC := (AC.seq (AC.reg [] [(I.mk (some 6) none false (X.v (A.mov (O.k (V.int IntKind.i64 (Int.ofNat 0))))))] []) A55_6)
def A55_12 : AC := (AC.reg [] [(I.mk (some 11) none false (X.v (A.mov (O.t 5)))), (I.mk (some 12) none false (X.v (A.bin BinOp.add (O.t 11) (O.k (V.int IntKind.i64 (Int.ofNat 1)))))), (I.mk (some 5) none false (X.v (A.mov (O.t 12))))] [])
def A55_3 : AC := (AC.seq (AC.block 1 (AC.seq (AC.seq (AC.reg [] [(I.mk (some 13) none false (X.v (A.load (Sh.ag [Sh.s, Sh.p]) (O.t 2)))), (I.mk (some 14) none false (X.v (A.mov (O.t 1)))), (I.mk (some 15) none false (X.v (A.mov (O.t 5)))), (I.mk (some 16) none false (X.v (A.idx (O.t 14) (O.t 15) 1))), (I.mk (some 17) none false (X.v (A.load Sh.p (O.t 16)))), (I.mk (some 18) none false (X.call (O.k (V.fn 89 [] [])) [(O.t 13), (O.t 17)])), (I.mk (some 19) none false (X.v (A.un UnOp.not (O.t 18)))), (I.mk (some 20) none false (X.v (A.mov (O.t 19)))), (I.mk (some 21) (some (20, false)) false (X.v (A.load (Sh.ag [Sh.s, Sh.p]) (O.t 2)))), (I.mk (some 22) (some (20, false)) false (X.v (A.mov (O.t 1)))), (I.mk (some 23) (some (20, false)) false (X.v (A.mov (O.t 5)))), (I.mk (some 24) (some (20, false)) false (X.v (A.idx (O.t 22) (O.t 23) 1))), (I.mk (some 25) (some (20, false)) false (X.v (A.load Sh.p (O.t 24)))), (I.mk (some 26) (some (20, false)) false (X.call (O.k (V.fn 90 [] [])) [(O.t 21), (O.t 25)])), (I.mk (some 27) (some (20, false)) false (X.v (A.len (O.t 26)))), (I.mk (some 28) (some (20, false)) false (X.v (A.bin BinOp.neq (O.t 27) (O.k (V.int IntKind.i64 (Int.ofNat 1)))))), (I.mk (some 29) none false (X.v (A.pick (O.t 20) (O.k (V.bool true)) (O.t 28))))] []) A55_4) A55_5)) A55_12)
def A55_1 : AC := (AC.seq (AC.seq (AC.reg [] [(I.mk (some 7) none false (X.v (A.mov (O.t 5)))), (I.mk (some 8) none false (X.v (A.mov (O.t 1)))), (I.mk (some 9) none false (X.v (A.len (O.t 8)))), (I.mk (some 10) none false (X.v (A.bin BinOp.lss (O.t 7) (O.t 9))))] []) A55_2) A55_3)
def A55_13 : AC := (AC.seq (AC.reg [] [(I.mk (some 46) none false (X.v (A.mov (O.t 1)))), (I.mk (some 47) none false (X.v (A.len (O.t 46)))), (I.mk (some 48) none false (X.v (A.bin BinOp.gtr (O.t 47) (O.k (V.int IntKind.i64 (Int.ofNat 0)))))), (I.mk (some 4) none false (X.v (A.mov (O.t 48))))] []) AC.ret)
def A55_15 : AC := (AC.block 0 (AC.loop A55_1))
def A55_14 : AC := (AC.seq (AC.seq (AC.reg [] [(I.mk (some 5) none false (X.v (A.mov (O.k (V.int IntKind.i64 (Int.ofNat 0))))))] []) A55_15) A55_13)
def A55 : AC := (AC.seq (AC.reg [.clr [2]] [(I.mk (some 2) none false (X.box (O.t 0))), (I.mk (some 4) none false (X.v (A.mov (O.k (V.bool false)))))] []) A55_14)
def an55 : List An := [{ id := 0, pre := [.clr [2]], ep := [], lin := [], sp := [] }]
theorem c55 : cC Try.prog Try.f55.ntmps an55 (Try.f55.body.getD .skip) = some A55 := by kernel_rfl
structure H55 (D : Den) (σ : Sig) (F : Nat) : Prop where
  c89 : ∀ (x0 : (Int × (List (Int × Int)))) (x1 : (List Int)) r, s_l2Set F x0 x1 = some r → D 89 [Enc.enc x0, Enc.enc x1] = some (Enc.enc (r : Bool))
  g89 : σ 89 = some (0, false)
  c90 : ∀ (x0 : (Int × (List (Int × Int)))) (x1 : (List Int)) r, s_l2Parts F x0 x1 = some r → D 90 [Enc.enc x0, Enc.enc x1] = some (Enc.enc (r : (List (List Int))))
  g90 : σ 90 = some (0, true)
  c91 : ∀ (x0 : (Int × (List (Int × Int)))) (x1 : (List Int)) (x2 : (List Int)) r, s_l5Touch F x0 x1 x2 = some r → D 91 [Enc.enc x0, Enc.enc x1, Enc.enc x2] = some (Enc.enc (r : Bool))
  g91 : σ 91 = some (0, false)
abbrev R55 (r : Bool) : (Nat → V) → Prop := RR Try.prog [.tmp 4] 0 false (Enc.enc (r : Bool))
section
variable {D : Den} {σ : Sig} {F : Nat} {r : Bool}
def s_l5Bramble_l1 (F : Nat) (sets_2 : (List (List Int))) (g_1 : (Int × (List (Int × Int)))) (i_22 : Int) (c1 : Int → Option Bool) : Nat → Int → Option Bool
  | 0, _ => none
  | k + 1, k_50 =>
    bif decide (k_50 < i_22) then
      (idx sets_2 k_50).bind fun e_54 =>
      (idx sets_2 i_22).bind fun e_55 =>
      (s_l5Touch F g_1 e_54 e_55).bind fun r_56 =>
      bif (!r_56) then
        some false
      else
        (s_l5Bramble_l1 F sets_2 g_1 i_22 c1 k) (w64 (k_50 + 1))
    else
      c1 (w64 (i_22 + 1))
theorem t_f55_l1 (H : H55 D σ F) (sets_2 : (List (List Int))) (g_1 : (Int × (List (Int × Int)))) (i_22 : Int) (c1 : Int → Option Bool) (Hc1 : ∀ (i_22 : Int) (s : Nat → V), Facts [(1, (Enc.enc (sets_2 : List (List Int)))), (2, (.ref (.bx 2) 0 [] (.agg [(.int .i64 g_1.1), (Enc.enc (g_1.2 : List (Int × Int)))]))), (4, (.bool false)), (5, (.int .i64 i_22))] s → c1 i_22 = some r → Run D σ (R55 r) (.run A55_1 [.lp A55_1, .bk 0, .sq A55_13]) s) : ∀ (k : Nat) (k_50 : Int) (s : Nat → V), Facts [(1, (Enc.enc (sets_2 : List (List Int)))), (2, (.ref (.bx 2) 0 [] (.agg [(.int .i64 g_1.1), (Enc.enc (g_1.2 : List (Int × Int)))]))), (4, (.bool false)), (5, (.int .i64 i_22)), (6, (.int .i64 k_50))] s → s_l5Bramble_l1 F sets_2 g_1 i_22 c1 k k_50 = some r → Run D σ (R55 r) (.run A55_7 [.lp A55_7, .bk 2, .bk 1, .sq A55_12, .lp A55_1, .bk 0, .sq A55_13]) s := by
  intro k
  induction k with
  | zero => intro k_50 s _ h; exact nomatch (h : (none : Option _) = some r)
  | succ k ih =>
    intro k_50 s hs h
    rw [s_l5Bramble_l1] at h
    obtain ⟨h1, h2, h4, h5, h6⟩ := hs
    refine .seq ?_
    refine .seq ?_
    refine run_reg ?_
    refine e_end ?_
    refine g_v1 (t := 6) (u := (.int .i64 k_50)) (.int .i64 k_50) h6 rfl rfl ?_
    refine g_v1 (t := 5) (u := (.int .i64 i_22)) (.int .i64 i_22) h5 rfl rfl ?_
    refine g_v2 (t1 := 30) (t2 := 31) (u1 := (.int .i64 k_50)) (u2 := (.int .i64 i_22)) (.bool (decide (k_50 < i_22))) rfl rfl rfl rfl ?_
    refine g_end ?_
    refine e_end ?_
    refine renew [(1, (Enc.enc (sets_2 : List (List Int)))), (2, (.ref (.bx 2) 0 [] (.agg [(.int .i64 g_1.1), (Enc.enc (g_1.2 : List (Int × Int)))]))), (4, (.bool false)), (5, (.int .i64 i_22)), (6, (.int .i64 k_50)), (32, (.bool (decide (k_50 < i_22))))] ⟨h1, h2, h4, h5, h6, rfl⟩ ?_
    rintro s ⟨h1, h2, h4, h5, h6, h32⟩
    refine .nsq ?_
    refine run_cond (t := decide (k_50 < i_22)) h32 h (fun h => ?_) (fun h => ?_)
    · refine .skip ?_
      refine .nsq ?_
      refine .seq ?_
      refine .block ?_
      refine .seq ?_
      refine run_reg ?_
      refine e_end ?_
      refine g_v1 (t := 2) (u := (.ref (.bx 2) 0 [] (.agg [(.int .i64 g_1.1), (Enc.enc (g_1.2 : List (Int × Int)))]))) (.agg [(.int .i64 g_1.1), (Enc.enc (g_1.2 : List (Int × Int)))]) h2 rfl rfl ?_
      refine g_v1 (t := 1) (u := (Enc.enc (sets_2 : List (List Int)))) (Enc.enc (sets_2 : List (List Int))) h1 rfl rfl ?_
      refine g_v1 (t := 6) (u := (.int .i64 k_50)) (.int .i64 k_50) h6 rfl rfl ?_
      obtain ⟨e_54, E_e_54, h⟩ := bind_some h
      refine g_v (.ref .sh 0 [] (Enc.enc (e_54 : List Int))) (ev_idx (t := .sh) (lo := 0) (xs := sets_2) rfl rfl E_e_54 rfl rfl) ?_
      refine g_v1 (t := 38) (u := (.ref .sh 0 [] (Enc.enc (e_54 : List Int)))) (Enc.enc (e_54 : List Int)) rfl rfl rfl ?_
      refine g_v1 (t := 1) (u := (Enc.enc (sets_2 : List (List Int)))) (Enc.enc (sets_2 : List (List Int))) h1 rfl rfl ?_
      refine g_v1 (t := 5) (u := (.int .i64 i_22)) (.int .i64 i_22) h5 rfl rfl ?_
      obtain ⟨e_55, E_e_55, h⟩ := bind_some h
      refine g_v (.ref .sh 0 [] (Enc.enc (e_55 : List Int))) (ev_idx (t := .sh) (lo := 0) (xs := sets_2) rfl rfl E_e_55 rfl rfl) ?_
      refine g_v1 (t := 42) (u := (.ref .sh 0 [] (Enc.enc (e_55 : List Int)))) (Enc.enc (e_55 : List Int)) rfl rfl rfl ?_
      obtain ⟨r_56, E_r_56, h⟩ := bind_some h
      refine g_call (m := 0) (al := false) (r := (Enc.enc (r_56 : Bool))) [Enc.enc (g_1 : (Int × (List (Int × Int)))), Enc.enc (e_54 : (List Int)), Enc.enc (e_55 : (List Int))] (ta_cons (v := (.agg [(.int .i64 g_1.1), (Enc.enc (g_1.2 : List (Int × Int)))])) rfl rfl (Enc.erase_enc (g_1 : (Int × (List (Int × Int))))) (ta_cons (v := (Enc.enc (e_54 : List Int))) rfl rfl (Enc.erase_enc (e_54 : (List Int))) (ta_cons (v := (Enc.enc (e_55 : List Int))) rfl rfl (Enc.erase_enc (e_55 : (List Int))) ta_nil))) (H.c91 _ _ _ _ E_r_56) H.g91 rfl rfl rfl rfl ?_
      refine g_v1 (t := 44) (u := (.bool r_56)) (.bool (!r_56)) rfl rfl rfl ?_
      refine g_end ?_
      refine e_end ?_
      refine renew [(1, (Enc.enc (sets_2 : List (List Int)))), (2, (.ref (.bx 2) 0 [] (.agg [(.int .i64 g_1.1), (Enc.enc (g_1.2 : List (Int × Int)))]))), (4, (.bool false)), (5, (.int .i64 i_22)), (6, (.int .i64 k_50)), (45, (.bool (!r_56)))] ⟨h1, h2, h4, h5, h6, rfl⟩ ?_
      rintro s ⟨h1, h2, h4, h5, h6, h45⟩
      refine .nsq ?_
      refine run_cond (t := (!r_56)) h45 h (fun h => ?_) (fun h => ?_)
      · refine .seq ?_
        refine run_reg ?_
        refine e_end ?_
        refine g_v0 (.bool false) rfl rfl ?_
        refine g_end ?_
        refine e_end ?_
        refine renew [(1, (Enc.enc (sets_2 : List (List Int)))), (2, (.ref (.bx 2) 0 [] (.agg [(.int .i64 g_1.1), (Enc.enc (g_1.2 : List (Int × Int)))]))), (4, (.bool false)), (5, (.int .i64 i_22)), (6, (.int .i64 k_50))] ⟨h1, h2, rfl, h5, h6⟩ ?_
        rintro s ⟨h1, h2, h4, h5, h6⟩
        refine .nsq ?_
        refine .ret ?_
        have hr := Option.some.inj h
        subst hr
        exact rrA (res_tmp h4) rfl
      · refine .skip ?_
        refine .nbk ?_
        refine .nsq ?_
        refine run_reg ?_
        refine e_end ?_
        refine g_v1 (t := 6) (u := (.int .i64 k_50)) (.int .i64 k_50) h6 rfl rfl ?_
        refine g_v1 (t := 33) (u := (.int .i64 k_50)) (.int .i64 (w64 (k_50 + 1))) rfl rfl rfl ?_
        refine g_v1 (t := 34) (u := (.int .i64 (w64 (k_50 + 1)))) (.int .i64 (w64 (k_50 + 1))) rfl rfl rfl ?_
        refine g_end ?_
        refine e_end ?_
        refine renew [(1, (Enc.enc (sets_2 : List (List Int)))), (2, (.ref (.bx 2) 0 [] (.agg [(.int .i64 g_1.1), (Enc.enc (g_1.2 : List (Int × Int)))]))), (4, (.bool false)), (5, (.int .i64 i_22)), (6, (.int .i64 (w64 (k_50 + 1))))] ⟨h1, h2, h4, h5, rfl⟩ ?_
        rintro s ⟨h1, h2, h4, h5, h6⟩
        refine .nlp ?_
        exact ih (w64 (k_50 + 1)) _ ⟨h1, h2, h4, h5, h6⟩ h
    · refine .exit ?_
      refine .esq ?_
      refine .elp ?_
      refine .ebk ?_
      refine .nbk ?_
      refine .nsq ?_
      refine run_reg ?_
      refine e_end ?_
      refine g_v1 (t := 5) (u := (.int .i64 i_22)) (.int .i64 i_22) h5 rfl rfl ?_
      refine g_v1 (t := 11) (u := (.int .i64 i_22)) (.int .i64 (w64 (i_22 + 1))) rfl rfl rfl ?_
      refine g_v1 (t := 12) (u := (.int .i64 (w64 (i_22 + 1)))) (.int .i64 (w64 (i_22 + 1))) rfl rfl rfl ?_
      refine g_end ?_
      refine e_end ?_
      refine renew [(1, (Enc.enc (sets_2 : List (List Int)))), (2, (.ref (.bx 2) 0 [] (.agg [(.int .i64 g_1.1), (Enc.enc (g_1.2 : List (Int × Int)))]))), (4, (.bool false)), (5, (.int .i64 (w64 (i_22 + 1))))] ⟨h1, h2, h4, rfl⟩ ?_
      rintro s ⟨h1, h2, h4, h5⟩
      refine .nlp ?_
      exact Hc1 (w64 (i_22 + 1)) _ ⟨h1, h2, h4, h5⟩ h
def s_l5Bramble_j1 (F : Nat) (sets_2 : (List (List Int))) (g_1 : (Int × (List (Int × Int)))) (i_22 : Int) (c1 : Int → Option Bool) (t29_46 : Bool) : Option Bool :=
  bif t29_46 then
    some false
  else
    s_l5Bramble_l1 F sets_2 g_1 i_22 c1 F 0
theorem t_f55_j1 (H : H55 D σ F) (sets_2 : (List (List Int))) (g_1 : (Int × (List (Int × Int)))) (i_22 : Int) (c1 : Int → Option Bool) (Hc1 : ∀ (i_22 : Int) (s : Nat → V), Facts [(1, (Enc.enc (sets_2 : List (List Int)))), (2, (.ref (.bx 2) 0 [] (.agg [(.int .i64 g_1.1), (Enc.enc (g_1.2 : List (Int × Int)))]))), (4, (.bool false)), (5, (.int .i64 i_22))] s → c1 i_22 = some r → Run D σ (R55 r) (.run A55_1 [.lp A55_1, .bk 0, .sq A55_13]) s) (t29_46 : Bool) (s : Nat → V) (hs : Facts [(1, (Enc.enc (sets_2 : List (List Int)))), (2, (.ref (.bx 2) 0 [] (.agg [(.int .i64 g_1.1), (Enc.enc (g_1.2 : List (Int × Int)))]))), (4, (.bool false)), (5, (.int .i64 i_22)), (29, (.bool t29_46))] s) (h : s_l5Bramble_j1 F sets_2 g_1 i_22 c1 t29_46 = some r) : Run D σ (R55 r) (.nrm [.sq A55_4, .sq A55_5, .bk 1, .sq A55_12, .lp A55_1, .bk 0, .sq A55_13]) s := by
  unfold s_l5Bramble_j1 at h
  obtain ⟨h1, h2, h4, h5, h29⟩ := hs
  refine .nsq ?_
  refine run_cond (t := t29_46) h29 h (fun h => ?_) (fun h => ?_)
  · refine .seq ?_
    refine run_reg ?_
    refine e_end ?_
    refine g_v0 (.bool false) rfl rfl ?_
    refine g_end ?_
    refine e_end ?_
    refine renew [(1, (Enc.enc (sets_2 : List (List Int)))), (2, (.ref (.bx 2) 0 [] (.agg [(.int .i64 g_1.1), (Enc.enc (g_1.2 : List (Int × Int)))]))), (4, (.bool false)), (5, (.int .i64 i_22))] ⟨h1, h2, rfl, h5⟩ ?_
    rintro s ⟨h1, h2, h4, h5⟩
    refine .nsq ?_
    refine .ret ?_
    have hr := Option.some.inj h
    subst hr
    exact rrA (res_tmp h4) rfl
  · refine .skip ?_
    refine .nsq ?_
    refine .seq ?_
    refine run_reg ?_
    refine e_end ?_
    refine g_v0 (.int .i64 0) rfl rfl ?_
    refine g_end ?_
    refine e_end ?_
    refine renew [(1, (Enc.enc (sets_2 : List (List Int)))), (2, (.ref (.bx 2) 0 [] (.agg [(.int .i64 g_1.1), (Enc.enc (g_1.2 : List (Int × Int)))]))), (4, (.bool false)), (5, (.int .i64 i_22)), (6, (.int .i64 0))] ⟨h1, h2, h4, h5, rfl⟩ ?_
    rintro s ⟨h1, h2, h4, h5, h6⟩
    refine .nsq ?_
    refine .block ?_
    refine .loop ?_
    exact t_f55_l1 H sets_2 g_1 i_22 c1 Hc1 F 0 _ ⟨h1, h2, h4, h5, h6⟩ h
def s_l5Bramble_l2 (F : Nat) (sets_2 : (List (List Int))) (g_1 : (Int × (List (Int × Int))))  : Nat → Int → Option Bool
  | 0, _ => none
  | k + 1, i_22 =>
    bif decide (i_22 < (sets_2.length : Int)) then
      (idx sets_2 i_22).bind fun e_57 =>
      (s_l2Set F g_1 e_57).bind fun r_58 =>
      bif (!r_58) then
        s_l5Bramble_j1 F sets_2 g_1 i_22 (s_l5Bramble_l2 F sets_2 g_1 k) true
      else
        (idx sets_2 i_22).bind fun e_59 =>
        (s_l2Parts F g_1 e_59).bind fun r_60 =>
        s_l5Bramble_j1 F sets_2 g_1 i_22 (s_l5Bramble_l2 F sets_2 g_1 k) ((r_60.length : Int) != 1)
    else
      some (decide ((sets_2.length : Int) > 0))
theorem t_f55_l2 (H : H55 D σ F) (sets_2 : (List (List Int))) (g_1 : (Int × (List (Int × Int))))  : ∀ (k : Nat) (i_22 : Int) (s : Nat → V), Facts [(1, (Enc.enc (sets_2 : List (List Int)))), (2, (.ref (.bx 2) 0 [] (.agg [(.int .i64 g_1.1), (Enc.enc (g_1.2 : List (Int × Int)))]))), (4, (.bool false)), (5, (.int .i64 i_22))] s → s_l5Bramble_l2 F sets_2 g_1 k i_22 = some r → Run D σ (R55 r) (.run A55_1 [.lp A55_1, .bk 0, .sq A55_13]) s := by
  intro k
  induction k with
  | zero => intro i_22 s _ h; exact nomatch (h : (none : Option _) = some r)
  | succ k ih =>
    intro i_22 s hs h
    rw [s_l5Bramble_l2] at h
    obtain ⟨h1, h2, h4, h5⟩ := hs
    refine .seq ?_
    refine .seq ?_
    refine run_reg ?_
    refine e_end ?_
    refine g_v1 (t := 5) (u := (.int .i64 i_22)) (.int .i64 i_22) h5 rfl rfl ?_
    refine g_v1 (t := 1) (u := (Enc.enc (sets_2 : List (List Int)))) (Enc.enc (sets_2 : List (List Int))) h1 rfl rfl ?_
    refine g_v (.int .i64 (sets_2.length : Int)) (ev_len (xs := sets_2) rfl) ?_
    refine g_v2 (t1 := 7) (t2 := 9) (u1 := (.int .i64 i_22)) (u2 := (.int .i64 (sets_2.length : Int))) (.bool (decide (i_22 < (sets_2.length : Int)))) rfl rfl rfl rfl ?_
    refine g_end ?_
    refine e_end ?_
    refine renew [(1, (Enc.enc (sets_2 : List (List Int)))), (2, (.ref (.bx 2) 0 [] (.agg [(.int .i64 g_1.1), (Enc.enc (g_1.2 : List (Int × Int)))]))), (4, (.bool false)), (5, (.int .i64 i_22)), (10, (.bool (decide (i_22 < (sets_2.length : Int)))))] ⟨h1, h2, h4, h5, rfl⟩ ?_
    rintro s ⟨h1, h2, h4, h5, h10⟩
    refine .nsq ?_
    refine run_cond (t := decide (i_22 < (sets_2.length : Int))) h10 h (fun h => ?_) (fun h => ?_)
    · refine .skip ?_
      refine .nsq ?_
      refine .seq ?_
      refine .block ?_
      refine .seq ?_
      refine .seq ?_
      refine run_reg ?_
      refine e_end ?_
      refine g_v1 (t := 2) (u := (.ref (.bx 2) 0 [] (.agg [(.int .i64 g_1.1), (Enc.enc (g_1.2 : List (Int × Int)))]))) (.agg [(.int .i64 g_1.1), (Enc.enc (g_1.2 : List (Int × Int)))]) h2 rfl rfl ?_
      refine g_v1 (t := 1) (u := (Enc.enc (sets_2 : List (List Int)))) (Enc.enc (sets_2 : List (List Int))) h1 rfl rfl ?_
      refine g_v1 (t := 5) (u := (.int .i64 i_22)) (.int .i64 i_22) h5 rfl rfl ?_
      obtain ⟨e_57, E_e_57, h⟩ := bind_some h
      refine g_v (.ref .sh 0 [] (Enc.enc (e_57 : List Int))) (ev_idx (t := .sh) (lo := 0) (xs := sets_2) rfl rfl E_e_57 rfl rfl) ?_
      refine g_v1 (t := 16) (u := (.ref .sh 0 [] (Enc.enc (e_57 : List Int)))) (Enc.enc (e_57 : List Int)) rfl rfl rfl ?_
      obtain ⟨r_58, E_r_58, h⟩ := bind_some h
      refine g_call (m := 0) (al := false) (r := (Enc.enc (r_58 : Bool))) [Enc.enc (g_1 : (Int × (List (Int × Int)))), Enc.enc (e_57 : (List Int))] (ta_cons (v := (.agg [(.int .i64 g_1.1), (Enc.enc (g_1.2 : List (Int × Int)))])) rfl rfl (Enc.erase_enc (g_1 : (Int × (List (Int × Int))))) (ta_cons (v := (Enc.enc (e_57 : List Int))) rfl rfl (Enc.erase_enc (e_57 : (List Int))) ta_nil)) (H.c89 _ _ _ E_r_58) H.g89 rfl rfl rfl rfl ?_
      refine g_v1 (t := 18) (u := (.bool r_58)) (.bool (!r_58)) rfl rfl rfl ?_
      refine g_v1 (t := 19) (u := (.bool (!r_58))) (.bool (!r_58)) rfl rfl rfl ?_
      refine split_on (c := (!r_58)) h (fun hg8 h => ?_) (fun hg8 h => ?_)
      · refine g_no (Eq.trans (b := .bool (!r_58)) rfl (congrArg V.bool hg8)) ?_
        refine g_no (Eq.trans (b := .bool (!r_58)) rfl (congrArg V.bool hg8)) ?_
        refine g_no (Eq.trans (b := .bool (!r_58)) rfl (congrArg V.bool hg8)) ?_
        refine g_no (Eq.trans (b := .bool (!r_58)) rfl (congrArg V.bool hg8)) ?_
        refine g_no (Eq.trans (b := .bool (!r_58)) rfl (congrArg V.bool hg8)) ?_
        refine g_no (Eq.trans (b := .bool (!r_58)) rfl (congrArg V.bool hg8)) ?_
        refine g_no (Eq.trans (b := .bool (!r_58)) rfl (congrArg V.bool hg8)) ?_
        refine g_no (Eq.trans (b := .bool (!r_58)) rfl (congrArg V.bool hg8)) ?_
        refine g_v2 (t1 := 20) (t2 := 28) (u1 := (.bool true)) (u2 := (.tup [])) (.bool true) (Eq.trans (b := .bool (!r_58)) rfl (congrArg V.bool hg8)) rfl rfl rfl ?_
        refine g_end ?_
        refine e_end ?_
        refine renew [(1, (Enc.enc (sets_2 : List (List Int)))), (2, (.ref (.bx 2) 0 [] (.agg [(.int .i64 g_1.1), (Enc.enc (g_1.2 : List (Int × Int)))]))), (4, (.bool false)), (5, (.int .i64 i_22)), (29, (.bool true))] ⟨h1, h2, h4, h5, rfl⟩ ?_
        rintro s ⟨h1, h2, h4, h5, h29⟩
        exact t_f55_j1 H sets_2 g_1 i_22 (s_l5Bramble_l2 F sets_2 g_1 k) ih true _ ⟨h1, h2, h4, h5, h29⟩ h
      · refine g_yes (Eq.trans (b := .bool (!r_58)) rfl (congrArg V.bool hg8)) (g_v1 (t := 2) (u := (.ref (.bx 2) 0 [] (.agg [(.int .i64 g_1.1), (Enc.enc (g_1.2 : List (Int × Int)))]))) (.agg [(.int .i64 g_1.1), (Enc.enc (g_1.2 : List (Int × Int)))]) h2 rfl rfl ?_)
        refine g_yes (Eq.trans (b := .bool (!r_58)) rfl (congrArg V.bool hg8)) (g_v1 (t := 1) (u := (Enc.enc (sets_2 : List (List Int)))) (Enc.enc (sets_2 : List (List Int))) h1 rfl rfl ?_)
        refine g_yes (Eq.trans (b := .bool (!r_58)) rfl (congrArg V.bool hg8)) (g_v1 (t := 5) (u := (.int .i64 i_22)) (.int .i64 i_22) h5 rfl rfl ?_)
        obtain ⟨e_59, E_e_59, h⟩ := bind_some h
        refine g_yes (Eq.trans (b := .bool (!r_58)) rfl (congrArg V.bool hg8)) (g_v (.ref .sh 0 [] (Enc.enc (e_59 : List Int))) (ev_idx (t := .sh) (lo := 0) (xs := sets_2) rfl rfl E_e_59 rfl rfl) ?_)
        refine g_yes (Eq.trans (b := .bool (!r_58)) rfl (congrArg V.bool hg8)) (g_v1 (t := 24) (u := (.ref .sh 0 [] (Enc.enc (e_59 : List Int)))) (Enc.enc (e_59 : List Int)) rfl rfl rfl ?_)
        obtain ⟨r_60, E_r_60, h⟩ := bind_some h
        refine g_yes (Eq.trans (b := .bool (!r_58)) rfl (congrArg V.bool hg8)) (g_call (m := 0) (al := true) (r := (Enc.enc (r_60 : (List (List Int))))) [Enc.enc (g_1 : (Int × (List (Int × Int)))), Enc.enc (e_59 : (List Int))] (ta_cons (v := (.agg [(.int .i64 g_1.1), (Enc.enc (g_1.2 : List (Int × Int)))])) rfl rfl (Enc.erase_enc (g_1 : (Int × (List (Int × Int))))) (ta_cons (v := (Enc.enc (e_59 : List Int))) rfl rfl (Enc.erase_enc (e_59 : (List Int))) ta_nil)) (H.c90 _ _ _ E_r_60) H.g90 (hal_of (ht_cons (v := (.agg [(.int .i64 g_1.1), (Enc.enc (g_1.2 : List (Int × Int)))])) rfl rfl rfl (ht_cons (v := (Enc.enc (e_59 : List Int))) rfl rfl rfl ht_nil))) rfl rfl rfl ?_)
        refine g_yes (Eq.trans (b := .bool (!r_58)) rfl (congrArg V.bool hg8)) (g_v (.int .i64 (r_60.length : Int)) (ev_len (xs := r_60) rfl) ?_)
        refine g_yes (Eq.trans (b := .bool (!r_58)) rfl (congrArg V.bool hg8)) (g_v1 (t := 27) (u := (.int .i64 (r_60.length : Int))) (.bool ((r_60.length : Int) != 1)) rfl rfl rfl ?_)
        refine g_v2 (t1 := 20) (t2 := 28) (u1 := (.bool false)) (u2 := (.bool ((r_60.length : Int) != 1))) (.bool ((r_60.length : Int) != 1)) (Eq.trans (b := .bool (!r_58)) rfl (congrArg V.bool hg8)) rfl rfl rfl ?_
        refine g_end ?_
        refine e_end ?_
        refine renew [(1, (Enc.enc (sets_2 : List (List Int)))), (2, (.ref (.bx 2) 0 [] (.agg [(.int .i64 g_1.1), (Enc.enc (g_1.2 : List (Int × Int)))]))), (4, (.bool false)), (5, (.int .i64 i_22)), (29, (.bool ((r_60.length : Int) != 1)))] ⟨h1, h2, h4, h5, rfl⟩ ?_
        rintro s ⟨h1, h2, h4, h5, h29⟩
        exact t_f55_j1 H sets_2 g_1 i_22 (s_l5Bramble_l2 F sets_2 g_1 k) ih ((r_60.length : Int) != 1) _ ⟨h1, h2, h4, h5, h29⟩ h
    · refine .exit ?_
      refine .esq ?_
      refine .elp ?_
      refine .ebk ?_
      refine .nsq ?_
      refine .seq ?_
      refine run_reg ?_
      refine e_end ?_
      refine g_v1 (t := 1) (u := (Enc.enc (sets_2 : List (List Int)))) (Enc.enc (sets_2 : List (List Int))) h1 rfl rfl ?_
      refine g_v (.int .i64 (sets_2.length : Int)) (ev_len (xs := sets_2) rfl) ?_
      refine g_v1 (t := 47) (u := (.int .i64 (sets_2.length : Int))) (.bool (decide ((sets_2.length : Int) > 0))) rfl rfl rfl ?_
      refine g_v1 (t := 48) (u := (.bool (decide ((sets_2.length : Int) > 0)))) (.bool (decide ((sets_2.length : Int) > 0))) rfl rfl rfl ?_
      refine g_end ?_
      refine e_end ?_
      refine renew [(4, (.bool (decide ((sets_2.length : Int) > 0))))] rfl ?_
      rintro s h4
      refine .nsq ?_
      refine .ret ?_
      have hr := Option.some.inj h
      subst hr
      exact rrA (res_tmp h4) rfl
def s_l5Bramble (F : Nat) (g_1 : (Int × (List (Int × Int)))) (sets_2 : (List (List Int))) : Option Bool :=
  s_l5Bramble_l2 F sets_2 g_1 F 0
theorem t55 (H : H55 D σ F) (g_1 : (Int × (List (Int × Int)))) (sets_2 : (List (List Int))) (s : Nat → V) (hs : Facts [(0, (.agg [(.int .i64 g_1.1), (Enc.enc (g_1.2 : List (Int × Int)))])), (1, (Enc.enc (sets_2 : List (List Int))))] s) (h : s_l5Bramble F g_1 sets_2 = some r) : Run D σ (R55 r) (.run A55 []) s := by
  unfold s_l5Bramble at h
  obtain ⟨h0, h1⟩ := hs
  refine .seq ?_
  refine run_reg ?_
  refine e_clr ?_
  refine e_end ?_
  refine g_box (.agg [(.int .i64 g_1.1), (Enc.enc (g_1.2 : List (Int × Int)))]) (rd_of (keep_clear (s := s) (pk := [2]) h0 rfl (map_agg (maps_cons rfl (maps_cons (Enc.map_enc _ (g_1.2 : List (Int × Int))) maps_nil)))) rfl) (gone_clear (s := s) (pk := [2]) (t := 2) rfl) rfl ?_
  refine g_v0 (.bool false) rfl rfl ?_
  refine g_end ?_
  refine e_end ?_
  refine renew [(1, (Enc.enc (sets_2 : List (List Int)))), (2, (.ref (.bx 2) 0 [] (.agg [(.int .i64 g_1.1), (Enc.enc (g_1.2 : List (Int × Int)))]))), (4, (.bool false))] ⟨(keep_clear (s := s) (pk := [2]) h1 rfl (Enc.map_enc _ (sets_2 : List (List Int)))), rfl, rfl⟩ ?_
  rintro s ⟨h1, h2, h4⟩
  refine .nsq ?_
  refine .seq ?_
  refine .seq ?_
  refine run_reg ?_
  refine e_end ?_
  refine g_v0 (.int .i64 0) rfl rfl ?_
  refine g_end ?_
  refine e_end ?_
  refine renew [(1, (Enc.enc (sets_2 : List (List Int)))), (2, (.ref (.bx 2) 0 [] (.agg [(.int .i64 g_1.1), (Enc.enc (g_1.2 : List (Int × Int)))]))), (4, (.bool false)), (5, (.int .i64 0))] ⟨h1, h2, h4, rfl⟩ ?_
  rintro s ⟨h1, h2, h4, h5⟩
  refine .nsq ?_
  refine .block ?_
  refine .loop ?_
  exact t_f55_l2 H sets_2 g_1 F 0 _ ⟨h1, h2, h4, h5⟩ h
end
def e55 (F : Nat) : Ent := ⟨55, da (fun (x : ((Int × (List (Int × Int))) × (List (List Int)) × Unit)) => s_l5Bramble F x.1 x.2.1) (fun (r : Bool) => (Enc.enc (r : Bool))), 0, false, selF []⟩
theorem p55 {F : Nat} {x0 : (Int × (List (Int × Int)))} {x1 : (List (List Int))} {r : Bool} (h : s_l5Bramble F x0 x1 = some r) : (e55 F).den [Enc.enc x0, Enc.enc x1] = some (Enc.enc (r : Bool)) := da_put (f := fun (x : ((Int × (List (Int × Int))) × (List (List Int)) × Unit)) => s_l5Bramble F x.1 x.2.1) (t := fun (r : Bool) => (Enc.enc (r : Bool))) (x0, x1, ()) h
theorem o55 {D : Den} {σ : Sig} {F : Nat} (hF : Fits2 Try.prog D σ) (H : H55 D σ F) : (e55 F).Ok Try.prog := by
  refine ⟨fun args r h => ?_, ⟨Try.f55, Try.func55, rfl, rfl⟩⟩
  obtain ⟨⟨x0, x1, _⟩, y, rfl, hy, rfl⟩ := da_open h
  exact contract_run hF (by kernel_rfl) Try.func55 rfl c55 (show 2 ≤ Try.f55.ntmps by decide) (t55 H x0 x1 _ ⟨rfl, rfl⟩ hy)
/- loop.example/g01109/spec.IsBramble -/
def A25_2 : AC := (AC.cond (O.t 8) (AC.seq (AC.reg [] [(I.mk (some 4) none false (X.v (A.mov (O.k (V.bool false))))), (I.mk (some 5) none false (X.v (A.mov (O.k (V.bool false)))))] []) AC.ret) AC.skip)
def A25_3 : AC := (AC.seq (AC.reg [] [(I.mk (some 9) none false (X.v (A.load (Sh.ag [Sh.s, Sh.p]) (O.t 2)))), (I.mk (some 10) none false (X.v (A.mov (O.t 1)))), (I.mk (some 11) none false (X.call (O.k (V.fn 55 [] [])) [(O.t 9), (O.t 10)])), (I.mk (some 4) none false (X.v (A.mov (O.t 11)))), (I.mk (some 5) none false (X.v (A.mov (O.k (V.bool true)))))] []) AC.ret)
def A25_1 : AC := (AC.seq (AC.seq (AC.reg [] [(I.mk (some 6) none false (X.v (A.load (Sh.ag [Sh.s, Sh.p]) (O.t 2)))), (I.mk (some 7) none false (X.call (O.k (V.fn 42 [] [])) [(O.t 6)])), (I.mk (some 8) none false (X.v (A.un UnOp.not (O.t 7))))] []) A25_2) A25_3)
def A25 : AC := (AC.seq (AC.reg [.clr [2]] [(I.mk (some 2) none false (X.box (O.t 0))), (I.mk (some 4) none false (X.v (A.mov (O.k (V.bool false))))), (I.mk (some 5) none false (X.v (A.mov (O.k (V.bool false)))))] []) A25_1)
def an25 : List An := [{ id := 0, pre := [.clr [2]], ep := [], lin := [], sp := [] }]
theorem c25 : cC Try.prog Try.f25.ntmps an25 (Try.f25.body.getD .skip) = some A25 := by kernel_rfl
structure H25 (D : Den) (σ : Sig) (F : Nat) : Prop where
  c42 : ∀ (x0 : (Int × (List (Int × Int)))) r, s_l2Good F x0 = some r → D 42 [Enc.enc x0] = some (Enc.enc (r : Bool))
  g42 : σ 42 = some (0, false)
  c55 : ∀ (x0 : (Int × (List (Int × Int)))) (x1 : (List (List Int))) r, s_l5Bramble F x0 x1 = some r → D 55 [Enc.enc x0, Enc.enc x1] = some (Enc.enc (r : Bool))
  g55 : σ 55 = some (0, false)
abbrev R25 (r : (Bool × Bool)) : (Nat → V) → Prop := RR Try.prog [.tmp 4, .tmp 5] 0 false (.tup [Enc.enc (r.1 : Bool), Enc.enc (r.2 : Bool)])
section
variable {D : Den} {σ : Sig} {F : Nat} {r : (Bool × Bool)}
def s_IsBramble (F : Nat) (g_1 : (Int × (List (Int × Int)))) (sets_2 : (List (List Int))) : Option (Bool × Bool) :=
  (s_l2Good F g_1).bind fun r_3 =>
  bif (!r_3) then
    some (false, false)
  else
    (s_l5Bramble F g_1 sets_2).bind fun r_4 =>
    some (r_4, true)
theorem t25 (H : H25 D σ F) (g_1 : (Int × (List (Int × Int)))) (sets_2 : (List (List Int))) (s : Nat → V) (hs : Facts [(0, (.agg [(.int .i64 g_1.1), (Enc.enc (g_1.2 : List (Int × Int)))])), (1, (Enc.enc (sets_2 : List (List Int))))] s) (h : s_IsBramble F g_1 sets_2 = some r) : Run D σ (R25 r) (.run A25 []) s := by
  unfold s_IsBramble at h
  obtain ⟨h0, h1⟩ := hs
  refine .seq ?_
  refine run_reg ?_
  refine e_clr ?_
  refine e_end ?_
  refine g_box (.agg [(.int .i64 g_1.1), (Enc.enc (g_1.2 : List (Int × Int)))]) (rd_of (keep_clear (s := s) (pk := [2]) h0 rfl (map_agg (maps_cons rfl (maps_cons (Enc.map_enc _ (g_1.2 : List (Int × Int))) maps_nil)))) rfl) (gone_clear (s := s) (pk := [2]) (t := 2) rfl) rfl ?_
  refine g_v0 (.bool false) rfl rfl ?_
  refine g_v0 (.bool false) rfl rfl ?_
  refine g_end ?_
  refine e_end ?_
  refine renew [(1, (Enc.enc (sets_2 : List (List Int)))), (2, (.ref (.bx 2) 0 [] (.agg [(.int .i64 g_1.1), (Enc.enc (g_1.2 : List (Int × Int)))]))), (4, (.bool false)), (5, (.bool false))] ⟨(keep_clear (s := s) (pk := [2]) h1 rfl (Enc.map_enc _ (sets_2 : List (List Int)))), rfl, rfl, rfl⟩ ?_
  rintro s ⟨h1, h2, h4, h5⟩
  refine .nsq ?_
  refine .seq ?_
  refine .seq ?_
  refine run_reg ?_
  refine e_end ?_
  refine g_v1 (t := 2) (u := (.ref (.bx 2) 0 [] (.agg [(.int .i64 g_1.1), (Enc.enc (g_1.2 : List (Int × Int)))]))) (.agg [(.int .i64 g_1.1), (Enc.enc (g_1.2 : List (Int × Int)))]) h2 rfl rfl ?_
  obtain ⟨r_3, E_r_3, h⟩ := bind_some h
  refine g_call (m := 0) (al := false) (r := (Enc.enc (r_3 : Bool))) [Enc.enc (g_1 : (Int × (List (Int × Int))))] (ta_cons (v := (.agg [(.int .i64 g_1.1), (Enc.enc (g_1.2 : List (Int × Int)))])) rfl rfl (Enc.erase_enc (g_1 : (Int × (List (Int × Int))))) ta_nil) (H.c42 _ _ E_r_3) H.g42 rfl rfl rfl rfl ?_
  refine g_v1 (t := 7) (u := (.bool r_3)) (.bool (!r_3)) rfl rfl rfl ?_
  refine g_end ?_
  refine e_end ?_
  refine renew [(1, (Enc.enc (sets_2 : List (List Int)))), (2, (.ref (.bx 2) 0 [] (.agg [(.int .i64 g_1.1), (Enc.enc (g_1.2 : List (Int × Int)))]))), (4, (.bool false)), (5, (.bool false)), (8, (.bool (!r_3)))] ⟨h1, h2, h4, h5, rfl⟩ ?_
  rintro s ⟨h1, h2, h4, h5, h8⟩
  refine .nsq ?_
  refine run_cond (t := (!r_3)) h8 h (fun h => ?_) (fun h => ?_)
  · refine .seq ?_
    refine run_reg ?_
    refine e_end ?_
    refine g_v0 (.bool false) rfl rfl ?_
    refine g_v0 (.bool false) rfl rfl ?_
    refine g_end ?_
    refine e_end ?_
    refine renew [(1, (Enc.enc (sets_2 : List (List Int)))), (2, (.ref (.bx 2) 0 [] (.agg [(.int .i64 g_1.1), (Enc.enc (g_1.2 : List (Int × Int)))]))), (4, (.bool false)), (5, (.bool false))] ⟨h1, h2, rfl, rfl⟩ ?_
    rintro s ⟨h1, h2, h4, h5⟩
    refine .nsq ?_
    refine .ret ?_
    have hr := Option.some.inj h
    subst hr
    exact rrB (res_tmp h4) (res_tmp h5) rfl
  · refine .skip ?_
    refine .nsq ?_
    refine .seq ?_
    refine run_reg ?_
    refine e_end ?_
    refine g_v1 (t := 2) (u := (.ref (.bx 2) 0 [] (.agg [(.int .i64 g_1.1), (Enc.enc (g_1.2 : List (Int × Int)))]))) (.agg [(.int .i64 g_1.1), (Enc.enc (g_1.2 : List (Int × Int)))]) h2 rfl rfl ?_
    refine g_v1 (t := 1) (u := (Enc.enc (sets_2 : List (List Int)))) (Enc.enc (sets_2 : List (List Int))) h1 rfl rfl ?_
    obtain ⟨r_4, E_r_4, h⟩ := bind_some h
    refine g_call (m := 0) (al := false) (r := (Enc.enc (r_4 : Bool))) [Enc.enc (g_1 : (Int × (List (Int × Int)))), Enc.enc (sets_2 : (List (List Int)))] (ta_cons (v := (.agg [(.int .i64 g_1.1), (Enc.enc (g_1.2 : List (Int × Int)))])) rfl rfl (Enc.erase_enc (g_1 : (Int × (List (Int × Int))))) (ta_cons (v := (Enc.enc (sets_2 : List (List Int)))) rfl rfl (Enc.erase_enc (sets_2 : (List (List Int)))) ta_nil)) (H.c55 _ _ _ E_r_4) H.g55 rfl rfl rfl rfl ?_
    refine g_v1 (t := 11) (u := (.bool r_4)) (.bool r_4) rfl rfl rfl ?_
    refine g_v0 (.bool true) rfl rfl ?_
    refine g_end ?_
    refine e_end ?_
    refine renew [(4, (.bool r_4)), (5, (.bool true))] ⟨rfl, rfl⟩ ?_
    rintro s ⟨h4, h5⟩
    refine .nsq ?_
    refine .ret ?_
    have hr := Option.some.inj h
    subst hr
    exact rrB (res_tmp h4) (res_tmp h5) rfl
end
def e25 (F : Nat) : Ent := ⟨25, da (fun (x : ((Int × (List (Int × Int))) × (List (List Int)) × Unit)) => s_IsBramble F x.1 x.2.1) (fun (r : (Bool × Bool)) => (.tup [Enc.enc (r.1 : Bool), Enc.enc (r.2 : Bool)])), 0, false, selF []⟩
theorem p25 {F : Nat} {x0 : (Int × (List (Int × Int)))} {x1 : (List (List Int))} {r : (Bool × Bool)} (h : s_IsBramble F x0 x1 = some r) : (e25 F).den [Enc.enc x0, Enc.enc x1] = some (.tup [Enc.enc (r.1 : Bool), Enc.enc (r.2 : Bool)]) := da_put (f := fun (x : ((Int × (List (Int × Int))) × (List (List Int)) × Unit)) => s_IsBramble F x.1 x.2.1) (t := fun (r : (Bool × Bool)) => (.tup [Enc.enc (r.1 : Bool), Enc.enc (r.2 : Bool)])) (x0, x1, ()) h
theorem o25 {D : Den} {σ : Sig} {F : Nat} (hF : Fits2 Try.prog D σ) (H : H25 D σ F) : (e25 F).Ok Try.prog := by
  refine ⟨fun args r h => ?_, ⟨Try.f25, Try.func25, rfl, rfl⟩⟩
  obtain ⟨⟨x0, x1, _⟩, y, rfl, hy, rfl⟩ := da_open h
  exact contract_run hF (by kernel_rfl) Try.func25 rfl c25 (show 2 ≤ Try.f25.ntmps by decide) (t25 H x0 x1 _ ⟨rfl, rfl⟩ hy)
/- loop.example/g01109/impl.within -/
def A62_1 : AC := (AC.seq (AC.reg [] [(I.mk (some 7) none false (X.v (A.mov (O.t 0)))), (I.mk (some 8) none false (X.v (A.mov (O.t 1)))), (I.mk (some 9) none false (X.v (A.bin BinOp.geq (O.t 7) (O.t 8)))), (I.mk (some 10) none false (X.v (A.mov (O.t 9)))), (I.mk (some 11) (some (10, true)) false (X.v (A.mov (O.t 0)))), (I.mk (some 12) (some (10, true)) false (X.v (A.mov (O.t 2)))), (I.mk (some 13) (some (10, true)) false (X.v (A.bin BinOp.leq (O.t 11) (O.t 12)))), (I.mk (some 14) none false (X.v (A.pick (O.t 10) (O.t 13) (O.k (V.bool false))))), (I.mk (some 6) none false (X.v (A.mov (O.t 14))))] []) AC.ret)
def A62 : AC := (AC.seq (AC.reg [] [(I.mk (some 6) none false (X.v (A.mov (O.k (V.bool false)))))] []) A62_1)
def an62 : List An := []
theorem c62 : cC Try.prog Try.f62.ntmps an62 (Try.f62.body.getD .skip) = some A62 := by kernel_rfl
structure H62 (D : Den) (σ : Sig) (F : Nat) : Prop where
  mk ::
abbrev R62 (r : Bool) : (Nat → V) → Prop := RR Try.prog [.tmp 6] 0 false (Enc.enc (r : Bool))
section
variable {D : Den} {σ : Sig} {F : Nat} {r : Bool}
def i_within (F : Nat) (n_1 : Int) (low_2 : Int) (high_3 : Int) : Option Bool :=
  bif decide (n_1 ≥ low_2) then
    some (decide (n_1 ≤ high_3))
  else
    some false
theorem t62 (H : H62 D σ F) (n_1 : Int) (low_2 : Int) (high_3 : Int) (s : Nat → V) (hs : Facts [(0, (.int .i64 n_1)), (1, (.int .i64 low_2)), (2, (.int .i64 high_3))] s) (h : i_within F n_1 low_2 high_3 = some r) : Run D σ (R62 r) (.run A62 []) s := by
  unfold i_within at h
  obtain ⟨h0, h1, h2⟩ := hs
  refine .seq ?_
  refine run_reg ?_
  refine e_end ?_
  refine g_v0 (.bool false) rfl rfl ?_
  refine g_end ?_
  refine e_end ?_
  refine renew [(0, (.int .i64 n_1)), (1, (.int .i64 low_2)), (2, (.int .i64 high_3)), (6, (.bool false))] ⟨h0, h1, h2, rfl⟩ ?_
  rintro s ⟨h0, h1, h2, h6⟩
  refine .nsq ?_
  refine .seq ?_
  refine run_reg ?_
  refine e_end ?_
  refine g_v1 (t := 0) (u := (.int .i64 n_1)) (.int .i64 n_1) h0 rfl rfl ?_
  refine g_v1 (t := 1) (u := (.int .i64 low_2)) (.int .i64 low_2) h1 rfl rfl ?_
  refine g_v2 (t1 := 7) (t2 := 8) (u1 := (.int .i64 n_1)) (u2 := (.int .i64 low_2)) (.bool (decide (n_1 ≥ low_2))) rfl rfl rfl rfl ?_
  refine g_v1 (t := 9) (u := (.bool (decide (n_1 ≥ low_2)))) (.bool (decide (n_1 ≥ low_2))) rfl rfl rfl ?_
  refine split_on (c := decide (n_1 ≥ low_2)) h (fun hg4 h => ?_) (fun hg4 h => ?_)
  · refine g_yes (Eq.trans (b := .bool (decide (n_1 ≥ low_2))) rfl (congrArg V.bool hg4)) (g_v1 (t := 0) (u := (.int .i64 n_1)) (.int .i64 n_1) h0 rfl rfl ?_)
    refine g_yes (Eq.trans (b := .bool (decide (n_1 ≥ low_2))) rfl (congrArg V.bool hg4)) (g_v1 (t := 2) (u := (.int .i64 high_3)) (.int .i64 high_3) h2 rfl rfl ?_)
    refine g_yes (Eq.trans (b := .bool (decide (n_1 ≥ low_2))) rfl (congrArg V.bool hg4)) (g_v2 (t1 := 11) (t2 := 12) (u1 := (.int .i64 n_1)) (u2 := (.int .i64 high_3)) (.bool (decide (n_1 ≤ high_3))) rfl rfl rfl rfl ?_)
    refine g_v2 (t1 := 10) (t2 := 13) (u1 := (.bool true)) (u2 := (.bool (decide (n_1 ≤ high_3)))) (.bool (decide (n_1 ≤ high_3))) (Eq.trans (b := .bool (decide (n_1 ≥ low_2))) rfl (congrArg V.bool hg4)) rfl rfl rfl ?_
    refine g_v1 (t := 14) (u := (.bool (decide (n_1 ≤ high_3)))) (.bool (decide (n_1 ≤ high_3))) rfl rfl rfl ?_
    refine g_end ?_
    refine e_end ?_
    refine renew [(6, (.bool (decide (n_1 ≤ high_3))))] rfl ?_
    rintro s h6
    refine .nsq ?_
    refine .ret ?_
    have hr := Option.some.inj h
    subst hr
    exact rrA (res_tmp h6) rfl
  · refine g_no (Eq.trans (b := .bool (decide (n_1 ≥ low_2))) rfl (congrArg V.bool hg4)) ?_
    refine g_no (Eq.trans (b := .bool (decide (n_1 ≥ low_2))) rfl (congrArg V.bool hg4)) ?_
    refine g_no (Eq.trans (b := .bool (decide (n_1 ≥ low_2))) rfl (congrArg V.bool hg4)) ?_
    refine g_v2 (t1 := 10) (t2 := 13) (u1 := (.bool false)) (u2 := (.tup [])) (.bool false) (Eq.trans (b := .bool (decide (n_1 ≥ low_2))) rfl (congrArg V.bool hg4)) rfl rfl rfl ?_
    refine g_v1 (t := 14) (u := (.bool false)) (.bool false) rfl rfl rfl ?_
    refine g_end ?_
    refine e_end ?_
    refine renew [(6, (.bool false))] rfl ?_
    rintro s h6
    refine .nsq ?_
    refine .ret ?_
    have hr := Option.some.inj h
    subst hr
    exact rrA (res_tmp h6) rfl
end
def e62 (F : Nat) : Ent := ⟨62, da (fun (x : (Int × Int × Int × Unit)) => i_within F x.1 x.2.1 x.2.2.1) (fun (r : Bool) => (Enc.enc (r : Bool))), 0, false, selF []⟩
theorem p62 {F : Nat} {x0 : Int} {x1 : Int} {x2 : Int} {r : Bool} (h : i_within F x0 x1 x2 = some r) : (e62 F).den [Enc.enc x0, Enc.enc x1, Enc.enc x2] = some (Enc.enc (r : Bool)) := da_put (f := fun (x : (Int × Int × Int × Unit)) => i_within F x.1 x.2.1 x.2.2.1) (t := fun (r : Bool) => (Enc.enc (r : Bool))) (x0, x1, x2, ()) h
theorem o62 {D : Den} {σ : Sig} {F : Nat} (hF : Fits2 Try.prog D σ) (H : H62 D σ F) : (e62 F).Ok Try.prog := by
  refine ⟨fun args r h => ?_, ⟨Try.f62, Try.func62, rfl, rfl⟩⟩
  obtain ⟨⟨x0, x1, x2, _⟩, y, rfl, hy, rfl⟩ := da_open h
  exact contract_run hF (by kernel_rfl) Try.func62 rfl c62 (show 3 ≤ Try.f62.ntmps by decide) (t62 H x0 x1 x2 _ ⟨rfl, rfl, rfl⟩ hy)
/- cmp.isNaN[int] -/
def A131_1 : AC := (AC.seq (AC.reg [] [(I.mk (some 3) none false (X.v (A.mov (O.t 0)))), (I.mk (some 4) none false (X.v (A.mov (O.t 0)))), (I.mk (some 5) none false (X.v (A.bin BinOp.neq (O.t 3) (O.t 4)))), (I.mk (some 2) none false (X.v (A.mov (O.t 5))))] []) AC.ret)
def A131 : AC := (AC.seq (AC.reg [] [(I.mk (some 2) none false (X.v (A.mov (O.k (V.bool false)))))] []) A131_1)
def an131 : List An := []
theorem c131 : cC Try.prog Try.f131.ntmps an131 (Try.f131.body.getD .skip) = some A131 := by kernel_rfl
structure H131 (D : Den) (σ : Sig) (F : Nat) : Prop where
  mk ::
abbrev R131 (r : Bool) : (Nat → V) → Prop := RR Try.prog [.tmp 2] 0 false (Enc.enc (r : Bool))
section
variable {D : Den} {σ : Sig} {F : Nat} {r : Bool}
def cmp_isNaN_int (F : Nat) (x_1 : Int) : Option Bool :=
  some (x_1 != x_1)
theorem t131 (H : H131 D σ F) (x_1 : Int) (s : Nat → V) (hs : Facts [(0, (.int .i64 x_1))] s) (h : cmp_isNaN_int F x_1 = some r) : Run D σ (R131 r) (.run A131 []) s := by
  unfold cmp_isNaN_int at h
  have h0 := hs
  refine .seq ?_
  refine run_reg ?_
  refine e_end ?_
  refine g_v0 (.bool false) rfl rfl ?_
  refine g_end ?_
  refine e_end ?_
  refine renew [(0, (.int .i64 x_1)), (2, (.bool false))] ⟨h0, rfl⟩ ?_
  rintro s ⟨h0, h2⟩
  refine .nsq ?_
  refine .seq ?_
  refine run_reg ?_
  refine e_end ?_
  refine g_v1 (t := 0) (u := (.int .i64 x_1)) (.int .i64 x_1) h0 rfl rfl ?_
  refine g_v1 (t := 0) (u := (.int .i64 x_1)) (.int .i64 x_1) h0 rfl rfl ?_
  refine g_v2 (t1 := 3) (t2 := 4) (u1 := (.int .i64 x_1)) (u2 := (.int .i64 x_1)) (.bool (x_1 != x_1)) rfl rfl rfl rfl ?_
  refine g_v1 (t := 5) (u := (.bool (x_1 != x_1))) (.bool (x_1 != x_1)) rfl rfl rfl ?_
  refine g_end ?_
  refine e_end ?_
  refine renew [(2, (.bool (x_1 != x_1)))] rfl ?_
  rintro s h2
  refine .nsq ?_
  refine .ret ?_
  have hr := Option.some.inj h
  subst hr
  exact rrA (res_tmp h2) rfl
end
def e131 (F : Nat) : Ent := ⟨131, da (fun (x : (Int × Unit)) => cmp_isNaN_int F x.1) (fun (r : Bool) => (Enc.enc (r : Bool))), 0, false, selF []⟩
theorem p131 {F : Nat} {x0 : Int} {r : Bool} (h : cmp_isNaN_int F x0 = some r) : (e131 F).den [Enc.enc x0] = some (Enc.enc (r : Bool)) := da_put (f := fun (x : (Int × Unit)) => cmp_isNaN_int F x.1) (t := fun (r : Bool) => (Enc.enc (r : Bool))) (x0, ()) h
theorem o131 {D : Den} {σ : Sig} {F : Nat} (hF : Fits2 Try.prog D σ) (H : H131 D σ F) : (e131 F).Ok Try.prog := by
  refine ⟨fun args r h => ?_, ⟨Try.f131, Try.func131, rfl, rfl⟩⟩
  obtain ⟨⟨x0, _⟩, y, rfl, hy, rfl⟩ := da_open h
  exact contract_run hF (by kernel_rfl) Try.func131 rfl c131 (show 1 ≤ Try.f131.ntmps by decide) (t131 H x0 _ rfl hy)
/- cmp.Compare[int] -/
def A114_5 : AC := (AC.cond (O.t 12) (AC.seq (AC.reg [] [(I.mk (some 4) none false (X.v (A.mov (O.k (V.int IntKind.i64 (Int.ofNat 0))))))] []) AC.ret) AC.skip)
def A114_6 : AC := (AC.seq (AC.reg [] [(I.mk (some 4) none false (X.v (A.mov (O.k (V.int IntKind.i64 (Int.negSucc 0))))))] []) AC.ret)
def A114_4 : AC := (AC.cond (O.t 11) (AC.seq (AC.seq (AC.reg [] [(I.mk (some 12) none false (X.v (A.mov (O.t 6))))] []) A114_5) A114_6) AC.skip)
def A114_8 : AC := (AC.cond (O.t 13) (AC.seq (AC.reg [] [(I.mk (some 4) none false (X.v (A.mov (O.k (V.int IntKind.i64 (Int.ofNat 1))))))] []) AC.ret) AC.skip)
def A114_10 : AC := (AC.cond (O.t 16) (AC.seq (AC.reg [] [(I.mk (some 4) none false (X.v (A.mov (O.k (V.int IntKind.i64 (Int.negSucc 0))))))] []) AC.ret) AC.skip)
def A114_12 : AC := (AC.cond (O.t 19) (AC.seq (AC.reg [] [(I.mk (some 4) none false (X.v (A.mov (O.k (V.int IntKind.i64 (Int.ofNat 1))))))] []) AC.ret) AC.skip)
def A114_13 : AC := (AC.seq (AC.reg [] [(I.mk (some 4) none false (X.v (A.mov (O.k (V.int IntKind.i64 (Int.ofNat 0))))))] []) AC.ret)
def A114_11 : AC := (AC.seq (AC.seq (AC.reg [] [(I.mk (some 17) none false (X.v (A.mov (O.t 0)))), (I.mk (some 18) none false (X.v (A.mov (O.t 1)))), (I.mk (some 19) none false (X.v (A.bin BinOp.gtr (O.t 17) (O.t 18))))] []) A114_12) A114_13)
def A114_9 : AC := (AC.seq (AC.seq (AC.reg [] [(I.mk (some 14) none false (X.v (A.mov (O.t 0)))), (I.mk (some 15) none false (X.v (A.mov (O.t 1)))), (I.mk (some 16) none false (X.v (A.bin BinOp.lss (O.t 14) (O.t 15))))] []) A114_10) A114_11)
def A114_7 : AC := (AC.seq (AC.seq (AC.reg [] [(I.mk (some 13) none false (X.v (A.mov (O.t 6))))] []) A114_8) A114_9)
def A114_3 : AC := (AC.seq (AC.seq (AC.reg [] [(I.mk (some 11) none false (X.v (A.mov (O.t 5))))] []) A114_4) A114_7)
def A114_2 : AC := (AC.seq (AC.reg [] [(I.mk (some 9) none false (X.v (A.mov (O.t 1)))), (I.mk (some 10) none false (X.call (O.k (V.fn 131 [] [])) [(O.t 9)])), (I.mk (some 6) none false (X.v (A.mov (O.t 10))))] []) A114_3)
def A114_1 : AC := (AC.seq (AC.reg [] [(I.mk (some 7) none false (X.v (A.mov (O.t 0)))), (I.mk (some 8) none false (X.call (O.k (V.fn 131 [] [])) [(O.t 7)])), (I.mk (some 5) none false (X.v (A.mov (O.t 8))))] []) A114_2)
def A114 : AC := (AC.seq (AC.reg [] [(I.mk (some 4) none false (X.v (A.mov (O.k (V.int IntKind.i64 (Int.ofNat 0))))))] []) A114_1)
def an114 : List An := []
theorem c114 : cC Try.prog Try.f114.ntmps an114 (Try.f114.body.getD .skip) = some A114 := by kernel_rfl
structure H114 (D : Den) (σ : Sig) (F : Nat) : Prop where
  c131 : ∀ (x0 : Int) r, cmp_isNaN_int F x0 = some r → D 131 [Enc.enc x0] = some (Enc.enc (r : Bool))
  g131 : σ 131 = some (0, false)
abbrev R114 (r : Int) : (Nat → V) → Prop := RR Try.prog [.tmp 4] 0 false (Enc.enc (r : Int))
section
variable {D : Den} {σ : Sig} {F : Nat} {r : Int}
def cmp_Compare_int (F : Nat) (x_1 : Int) (y_2 : Int) : Option Int :=
  (cmp_isNaN_int F x_1).bind fun r_3 =>
  (cmp_isNaN_int F y_2).bind fun r_4 =>
  bif r_3 then
    bif r_4 then
      some 0
    else
      some (-1)
  else
    bif r_4 then
      some 1
    else
      bif decide (x_1 < y_2) then
        some (-1)
      else
        bif decide (x_1 > y_2) then
          some 1
        else
          some 0
theorem t114 (H : H114 D σ F) (x_1 : Int) (y_2 : Int) (s : Nat → V) (hs : Facts [(0, (.int .i64 x_1)), (1, (.int .i64 y_2))] s) (h : cmp_Compare_int F x_1 y_2 = some r) : Run D σ (R114 r) (.run A114 []) s := by
  unfold cmp_Compare_int at h
  obtain ⟨h0, h1⟩ := hs
  refine .seq ?_
  refine run_reg ?_
  refine e_end ?_
  refine g_v0 (.int .i64 0) rfl rfl ?_
  refine g_end ?_
  refine e_end ?_
  refine renew [(0, (.int .i64 x_1)), (1, (.int .i64 y_2)), (4, (.int .i64 0))] ⟨h0, h1, rfl⟩ ?_
  rintro s ⟨h0, h1, h4⟩
  refine .nsq ?_
  refine .seq ?_
  refine run_reg ?_
  refine e_end ?_
  refine g_v1 (t := 0) (u := (.int .i64 x_1)) (.int .i64 x_1) h0 rfl rfl ?_
  obtain ⟨r_3, E_r_3, h⟩ := bind_some h
  refine g_call (m := 0) (al := false) (r := (Enc.enc (r_3 : Bool))) [Enc.enc (x_1 : Int)] (ta_cons (v := (.int .i64 x_1)) rfl rfl rfl ta_nil) (H.c131 _ _ E_r_3) H.g131 rfl rfl rfl rfl ?_
  refine g_v1 (t := 8) (u := (.bool r_3)) (.bool r_3) rfl rfl rfl ?_
  refine g_end ?_
  refine e_end ?_
  refine renew [(0, (.int .i64 x_1)), (1, (.int .i64 y_2)), (4, (.int .i64 0)), (5, (.bool r_3))] ⟨h0, h1, h4, rfl⟩ ?_
  rintro s ⟨h0, h1, h4, h5⟩
  refine .nsq ?_
  refine .seq ?_
  refine run_reg ?_
  refine e_end ?_
  refine g_v1 (t := 1) (u := (.int .i64 y_2)) (.int .i64 y_2) h1 rfl rfl ?_
  obtain ⟨r_4, E_r_4, h⟩ := bind_some h
  refine g_call (m := 0) (al := false) (r := (Enc.enc (r_4 : Bool))) [Enc.enc (y_2 : Int)] (ta_cons (v := (.int .i64 y_2)) rfl rfl rfl ta_nil) (H.c131 _ _ E_r_4) H.g131 rfl rfl rfl rfl ?_
  refine g_v1 (t := 10) (u := (.bool r_4)) (.bool r_4) rfl rfl rfl ?_
  refine g_end ?_
  refine e_end ?_
  refine renew [(0, (.int .i64 x_1)), (1, (.int .i64 y_2)), (4, (.int .i64 0)), (5, (.bool r_3)), (6, (.bool r_4))] ⟨h0, h1, h4, h5, rfl⟩ ?_
  rintro s ⟨h0, h1, h4, h5, h6⟩
  refine .nsq ?_
  refine .seq ?_
  refine .seq ?_
  refine run_reg ?_
  refine e_end ?_
  refine g_v1 (t := 5) (u := (.bool r_3)) (.bool r_3) h5 rfl rfl ?_
  refine g_end ?_
  refine e_end ?_
  refine renew [(0, (.int .i64 x_1)), (1, (.int .i64 y_2)), (4, (.int .i64 0)), (6, (.bool r_4)), (11, (.bool r_3))] ⟨h0, h1, h4, h6, rfl⟩ ?_
  rintro s ⟨h0, h1, h4, h6, h11⟩
  refine .nsq ?_
  refine run_cond (t := r_3) h11 h (fun h => ?_) (fun h => ?_)
  · refine .seq ?_
    refine .seq ?_
    refine run_reg ?_
    refine e_end ?_
    refine g_v1 (t := 6) (u := (.bool r_4)) (.bool r_4) h6 rfl rfl ?_
    refine g_end ?_
    refine e_end ?_
    refine renew [(0, (.int .i64 x_1)), (1, (.int .i64 y_2)), (4, (.int .i64 0)), (6, (.bool r_4)), (12, (.bool r_4))] ⟨h0, h1, h4, h6, rfl⟩ ?_
    rintro s ⟨h0, h1, h4, h6, h12⟩
    refine .nsq ?_
    refine run_cond (t := r_4) h12 h (fun h => ?_) (fun h => ?_)
    · refine .seq ?_
      refine run_reg ?_
      refine e_end ?_
      refine g_v0 (.int .i64 0) rfl rfl ?_
      refine g_end ?_
      refine e_end ?_
      refine renew [(0, (.int .i64 x_1)), (1, (.int .i64 y_2)), (4, (.int .i64 0)), (6, (.bool r_4))] ⟨h0, h1, rfl, h6⟩ ?_
      rintro s ⟨h0, h1, h4, h6⟩
      refine .nsq ?_
      refine .ret ?_
      have hr := Option.some.inj h
      subst hr
      exact rrA (res_tmp h4) rfl
    · refine .skip ?_
      refine .nsq ?_
      refine .seq ?_
      refine run_reg ?_
      refine e_end ?_
      refine g_v0 (.int .i64 (-1)) rfl rfl ?_
      refine g_end ?_
      refine e_end ?_
      refine renew [(0, (.int .i64 x_1)), (1, (.int .i64 y_2)), (4, (.int .i64 (-1))), (6, (.bool r_4))] ⟨h0, h1, rfl, h6⟩ ?_
      rintro s ⟨h0, h1, h4, h6⟩
      refine .nsq ?_
      refine .ret ?_
      have hr := Option.some.inj h
      subst hr
      exact rrA (res_tmp h4) rfl
  · refine .skip ?_
    refine .nsq ?_
    refine .seq ?_
    refine .seq ?_
    refine run_reg ?_
    refine e_end ?_
    refine g_v1 (t := 6) (u := (.bool r_4)) (.bool r_4) h6 rfl rfl ?_
    refine g_end ?_
    refine e_end ?_
    refine renew [(0, (.int .i64 x_1)), (1, (.int .i64 y_2)), (4, (.int .i64 0)), (13, (.bool r_4))] ⟨h0, h1, h4, rfl⟩ ?_
    rintro s ⟨h0, h1, h4, h13⟩
    refine .nsq ?_
    refine run_cond (t := r_4) h13 h (fun h => ?_) (fun h => ?_)
    · refine .seq ?_
      refine run_reg ?_
      refine e_end ?_
      refine g_v0 (.int .i64 1) rfl rfl ?_
      refine g_end ?_
      refine e_end ?_
      refine renew [(0, (.int .i64 x_1)), (1, (.int .i64 y_2)), (4, (.int .i64 1))] ⟨h0, h1, rfl⟩ ?_
      rintro s ⟨h0, h1, h4⟩
      refine .nsq ?_
      refine .ret ?_
      have hr := Option.some.inj h
      subst hr
      exact rrA (res_tmp h4) rfl
    · refine .skip ?_
      refine .nsq ?_
      refine .seq ?_
      refine .seq ?_
      refine run_reg ?_
      refine e_end ?_
      refine g_v1 (t := 0) (u := (.int .i64 x_1)) (.int .i64 x_1) h0 rfl rfl ?_
      refine g_v1 (t := 1) (u := (.int .i64 y_2)) (.int .i64 y_2) h1 rfl rfl ?_
      refine g_v2 (t1 := 14) (t2 := 15) (u1 := (.int .i64 x_1)) (u2 := (.int .i64 y_2)) (.bool (decide (x_1 < y_2))) rfl rfl rfl rfl ?_
      refine g_end ?_
      refine e_end ?_
      refine renew [(0, (.int .i64 x_1)), (1, (.int .i64 y_2)), (4, (.int .i64 0)), (16, (.bool (decide (x_1 < y_2))))] ⟨h0, h1, h4, rfl⟩ ?_
      rintro s ⟨h0, h1, h4, h16⟩
      refine .nsq ?_
      refine run_cond (t := decide (x_1 < y_2)) h16 h (fun h => ?_) (fun h => ?_)
      · refine .seq ?_
        refine run_reg ?_
        refine e_end ?_
        refine g_v0 (.int .i64 (-1)) rfl rfl ?_
        refine g_end ?_
        refine e_end ?_
        refine renew [(0, (.int .i64 x_1)), (1, (.int .i64 y_2)), (4, (.int .i64 (-1)))] ⟨h0, h1, rfl⟩ ?_
        rintro s ⟨h0, h1, h4⟩
        refine .nsq ?_
        refine .ret ?_
        have hr := Option.some.inj h
        subst hr
        exact rrA (res_tmp h4) rfl
      · refine .skip ?_
        refine .nsq ?_
        refine .seq ?_
        refine .seq ?_
        refine run_reg ?_
        refine e_end ?_
        refine g_v1 (t := 0) (u := (.int .i64 x_1)) (.int .i64 x_1) h0 rfl rfl ?_
        refine g_v1 (t := 1) (u := (.int .i64 y_2)) (.int .i64 y_2) h1 rfl rfl ?_
        refine g_v2 (t1 := 17) (t2 := 18) (u1 := (.int .i64 x_1)) (u2 := (.int .i64 y_2)) (.bool (decide (x_1 > y_2))) rfl rfl rfl rfl ?_
        refine g_end ?_
        refine e_end ?_
        refine renew [(4, (.int .i64 0)), (19, (.bool (decide (x_1 > y_2))))] ⟨h4, rfl⟩ ?_
        rintro s ⟨h4, h19⟩
        refine .nsq ?_
        refine run_cond (t := decide (x_1 > y_2)) h19 h (fun h => ?_) (fun h => ?_)
        · refine .seq ?_
          refine run_reg ?_
          refine e_end ?_
          refine g_v0 (.int .i64 1) rfl rfl ?_
          refine g_end ?_
          refine e_end ?_
          refine renew [(4, (.int .i64 1))] rfl ?_
          rintro s h4
          refine .nsq ?_
          refine .ret ?_
          have hr := Option.some.inj h
          subst hr
          exact rrA (res_tmp h4) rfl
        · refine .skip ?_
          refine .nsq ?_
          refine .seq ?_
          refine run_reg ?_
          refine e_end ?_
          refine g_v0 (.int .i64 0) rfl rfl ?_
          refine g_end ?_
          refine e_end ?_
          refine renew [(4, (.int .i64 0))] rfl ?_
          rintro s h4
          refine .nsq ?_
          refine .ret ?_
          have hr := Option.some.inj h
          subst hr
          exact rrA (res_tmp h4) rfl
end
def e114 (F : Nat) : Ent := ⟨114, da (fun (x : (Int × Int × Unit)) => cmp_Compare_int F x.1 x.2.1) (fun (r : Int) => (Enc.enc (r : Int))), 0, false, selF []⟩
theorem p114 {F : Nat} {x0 : Int} {x1 : Int} {r : Int} (h : cmp_Compare_int F x0 x1 = some r) : (e114 F).den [Enc.enc x0, Enc.enc x1] = some (Enc.enc (r : Int)) := da_put (f := fun (x : (Int × Int × Unit)) => cmp_Compare_int F x.1 x.2.1) (t := fun (r : Int) => (Enc.enc (r : Int))) (x0, x1, ()) h
theorem o114 {D : Den} {σ : Sig} {F : Nat} (hF : Fits2 Try.prog D σ) (H : H114 D σ F) : (e114 F).Ok Try.prog := by
  refine ⟨fun args r h => ?_, ⟨Try.f114, Try.func114, rfl, rfl⟩⟩
  obtain ⟨⟨x0, x1, _⟩, y, rfl, hy, rfl⟩ := da_open h
  exact contract_run hF (by kernel_rfl) Try.func114 rfl c114 (show 2 ≤ Try.f114.ntmps by decide) (t114 H x0 x1 _ ⟨rfl, rfl⟩ hy)
/- slices.Compare[[]int,int] -/
def A81_5 : AC := (AC.cond (O.t 19) (AC.seq (AC.reg [] [(I.mk (some 4) none false (X.v (A.mov (O.k (V.int IntKind.i64 (Int.ofNat 1))))))] []) AC.ret) AC.skip)
def A81_9 : AC := (AC.cond (O.t 28) (AC.seq (AC.reg [] [(I.mk (some 29) none false (X.v (A.mov (O.t 8)))), (I.mk (some 4) none false (X.v (A.mov (O.t 29))))] []) AC.ret) AC.skip)
def A81_8 : AC := (AC.seq (AC.reg [] [(I.mk (some 27) none false (X.v (A.mov (O.t 8)))), (I.mk (some 28) none false (X.v (A.bin BinOp.neq (O.t 27) (O.k (V.int IntKind.i64 (Int.ofNat 0))))))] []) A81_9)
def A81_7 : AC := (AC.seq (AC.reg [] [(I.mk (some 24) none false (X.v (A.mov (O.t 6)))), (I.mk (some 25) none false (X.v (A.mov (O.t 7)))), (I.mk (some 26) none false (X.call (O.k (V.fn 114 [] [])) [(O.t 24), (O.t 25)])), (I.mk (some 8) none false (X.v (A.mov (O.t 26))))] []) A81_8)
def A81_6 : AC := (AC.seq (AC.reg [] [(I.mk (some 20) none false (X.v (A.mov (O.t 1)))), (I.mk (some 21) none false (X.v (A.mov (O.t 5)))), (I.mk (some 22) none false (X.v (A.idx (O.t 20) (O.t 21) 1))), (I.mk (some 23) none false (X.v (A.load Sh.s (O.t 22)))), (I.mk (some 7) none false (X.v (A.mov (O.t 23))))] []) A81_7)
def A81_4 : AC := (AC.seq (AC.seq (AC.reg [] [(I.mk (some 16) none false (X.v (A.mov (O.t 5)))), (I.mk (some 17) none false (X.v (A.mov (O.t 1)))), (I.mk (some 18) none false (X.v (A.len (O.t 17)))), (I.mk (some 19) none false (X.v (A.bin BinOp.geq (O.t 16) (O.t 18))))] []) A81_5) A81_6)
def A81_10 : AC := (AC.reg [] [(I.mk (some 30) none false (X.v (A.bin BinOp.add (O.t 11) (O.k (V.int IntKind.i64 (Int.ofNat 1)))))), (I.mk (some 11) none false (X.v (A.mov (O.t 30))))] [])
def A81_3 : AC := (AC.seq (AC.block 1 (AC.seq (AC.reg [] [(I.mk (some 13) none false (X.v (A.mov (O.t 11)))), (I.mk (some 14) none false (X.v (A.idx (O.t 9) (O.t 11) 1))), (I.mk (some 15) none false (X.v (A.load Sh.s (O.t 14)))), (I.mk (some 5) none false (X.v (A.mov (O.t 13)))), (I.mk (some 6) none false (X.v (A.mov (O.t 15))))] []) A81_4)) A81_10)
def A81_2 : AC := (AC.seq (AC.cond (O.t 12) AC.skip (AC.exit 0)) A81_3)
def A81_1 : AC := (AC.seq (AC.reg [] [(I.mk (some 12) none false (X.v (A.bin BinOp.lss (O.t 11) (O.t 10))))] []) A81_2)
def A81_12 : AC := (AC.cond (O.t 35) (AC.seq (AC.reg [] [(I.mk (some 4) none false (X.v (A.mov (O.k (V.int IntKind.i64 (Int.negSucc 0))))))] []) AC.ret) AC.skip)
def A81_13 : AC := (AC.seq (AC.reg [] [(I.mk (some 4) none false (X.v (A.mov (O.k (V.int IntKind.i64 (Int.ofNat 0))))))] []) AC.ret)
def A81_11 : AC := (AC.seq (AC.seq (AC.reg [] [(I.mk (some 31) none false (X.v (A.mov (O.t 0)))), (I.mk (some 32) none false (X.v (A.len (O.t 31)))), (I.mk (some 33) none false (X.v (A.mov (O.t 1)))), (I.mk (some 34) none false (X.v (A.len (O.t 33)))), (I.mk (some 35) none false (X.v (A.bin BinOp.lss (O.t 32) (O.t 34))))] []) A81_12) A81_13)
def A81_15 : AC := (AC.block 0 (AC.loop A81_1))
def A81_14 : AC := (AC.seq (AC.seq (AC.reg [] [(I.mk (some 9) none false (X.v (A.mov (O.t 0)))), (I.mk (some 10) none false (X.v (A.len (O.t 9)))), (I.mk (some 11) none false (X.v (A.mov (O.k (V.int IntKind.i64 (Int.ofNat 0))))))] []) A81_15) A81_11)
def A81 : AC := (AC.seq (AC.reg [] [(I.mk (some 4) none false (X.v (A.mov (O.k (V.int IntKind.i64 (Int.ofNat 0))))))] []) A81_14)
def an81 : List An := []
theorem c81 : cC Try.prog Try.f81.ntmps an81 (Try.f81.body.getD .skip) = some A81 := by kernel_rfl
structure H81 (D : Den) (σ : Sig) (F : Nat) : Prop where
  c114 : ∀ (x0 : Int) (x1 : Int) r, cmp_Compare_int F x0 x1 = some r → D 114 [Enc.enc x0, Enc.enc x1] = some (Enc.enc (r : Int))
  g114 : σ 114 = some (0, false)
abbrev R81 (r : Int) : (Nat → V) → Prop := RR Try.prog [.tmp 4] 0 false (Enc.enc (r : Int))
section
variable {D : Den} {σ : Sig} {F : Nat} {r : Int}
def slices_Compare_l1 (F : Nat) (s1_1 : (List Int)) (s2_2 : (List Int))  : Nat → Int → Option Int
  | 0, _ => none
  | k + 1, t11_6 =>
    bif decide (t11_6 < (s1_1.length : Int)) then
      (idx s1_1 t11_6).bind fun e_10 =>
      bif decide (t11_6 ≥ (s2_2.length : Int)) then
        some 1
      else
        (idx s2_2 t11_6).bind fun e_11 =>
        (cmp_Compare_int F e_10 e_11).bind fun r_12 =>
        bif (r_12 != 0) then
          some r_12
        else
          (slices_Compare_l1 F s1_1 s2_2 k) (w64 (t11_6 + 1))
    else
      bif decide ((s1_1.length : Int) < (s2_2.length : Int)) then
        some (-1)
      else
        some 0
theorem t_f81_l1 (H : H81 D σ F) (s1_1 : (List Int)) (s2_2 : (List Int))  : ∀ (k : Nat) (t11_6 : Int) (s : Nat → V), Facts [(0, (Enc.enc (s1_1 : List Int))), (1, (Enc.enc (s2_2 : List Int))), (4, (.int .i64 0)), (9, (Enc.enc (s1_1 : List Int))), (10, (.int .i64 (s1_1.length : Int))), (11, (.int .i64 t11_6))] s → slices_Compare_l1 F s1_1 s2_2 k t11_6 = some r → Run D σ (R81 r) (.run A81_1 [.lp A81_1, .bk 0, .sq A81_11]) s := by
  intro k
  induction k with
  | zero => intro t11_6 s _ h; exact nomatch (h : (none : Option _) = some r)
  | succ k ih =>
    intro t11_6 s hs h
    rw [slices_Compare_l1] at h
    obtain ⟨h0, h1, h4, h9, h10, h11⟩ := hs
    refine .seq ?_
    refine run_reg ?_
    refine e_end ?_
    refine g_v2 (t1 := 11) (t2 := 10) (u1 := (.int .i64 t11_6)) (u2 := (.int .i64 (s1_1.length : Int))) (.bool (decide (t11_6 < (s1_1.length : Int)))) h11 h10 rfl rfl ?_
    refine g_end ?_
    refine e_end ?_
    refine renew [(0, (Enc.enc (s1_1 : List Int))), (1, (Enc.enc (s2_2 : List Int))), (4, (.int .i64 0)), (9, (Enc.enc (s1_1 : List Int))), (10, (.int .i64 (s1_1.length : Int))), (11, (.int .i64 t11_6)), (12, (.bool (decide (t11_6 < (s1_1.length : Int)))))] ⟨h0, h1, h4, h9, h10, h11, rfl⟩ ?_
    rintro s ⟨h0, h1, h4, h9, h10, h11, h12⟩
    refine .nsq ?_
    refine .seq ?_
    refine run_cond (t := decide (t11_6 < (s1_1.length : Int))) h12 h (fun h => ?_) (fun h => ?_)
    · refine .skip ?_
      refine .nsq ?_
      refine .seq ?_
      refine .block ?_
      refine .seq ?_
      refine run_reg ?_
      refine e_end ?_
      refine g_v1 (t := 11) (u := (.int .i64 t11_6)) (.int .i64 t11_6) h11 rfl rfl ?_
      obtain ⟨e_10, E_e_10, h⟩ := bind_some h
      refine g_v (.ref .sh 0 [] (.int .i64 e_10)) (ev_idx (t := .sh) (lo := 0) (xs := s1_1) h9 h11 E_e_10 rfl rfl) ?_
      refine g_v1 (t := 14) (u := (.ref .sh 0 [] (.int .i64 e_10))) (.int .i64 e_10) rfl rfl rfl ?_
      refine g_v1 (t := 13) (u := (.int .i64 t11_6)) (.int .i64 t11_6) rfl rfl rfl ?_
      refine g_v1 (t := 15) (u := (.int .i64 e_10)) (.int .i64 e_10) rfl rfl rfl ?_
      refine g_end ?_
      refine e_end ?_
      refine renew [(0, (Enc.enc (s1_1 : List Int))), (1, (Enc.enc (s2_2 : List Int))), (4, (.int .i64 0)), (5, (.int .i64 t11_6)), (6, (.int .i64 e_10)), (9, (Enc.enc (s1_1 : List Int))), (10, (.int .i64 (s1_1.length : Int))), (11, (.int .i64 t11_6))] ⟨h0, h1, h4, rfl, rfl, h9, h10, h11⟩ ?_
      rintro s ⟨h0, h1, h4, h5, h6, h9, h10, h11⟩
      refine .nsq ?_
      refine .seq ?_
      refine .seq ?_
      refine run_reg ?_
      refine e_end ?_
      refine g_v1 (t := 5) (u := (.int .i64 t11_6)) (.int .i64 t11_6) h5 rfl rfl ?_
      refine g_v1 (t := 1) (u := (Enc.enc (s2_2 : List Int))) (Enc.enc (s2_2 : List Int)) h1 rfl rfl ?_
      refine g_v (.int .i64 (s2_2.length : Int)) (ev_len (xs := s2_2) rfl) ?_
      refine g_v2 (t1 := 16) (t2 := 18) (u1 := (.int .i64 t11_6)) (u2 := (.int .i64 (s2_2.length : Int))) (.bool (decide (t11_6 ≥ (s2_2.length : Int)))) rfl rfl rfl rfl ?_
      refine g_end ?_
      refine e_end ?_
      refine renew [(0, (Enc.enc (s1_1 : List Int))), (1, (Enc.enc (s2_2 : List Int))), (4, (.int .i64 0)), (5, (.int .i64 t11_6)), (6, (.int .i64 e_10)), (9, (Enc.enc (s1_1 : List Int))), (10, (.int .i64 (s1_1.length : Int))), (11, (.int .i64 t11_6)), (19, (.bool (decide (t11_6 ≥ (s2_2.length : Int)))))] ⟨h0, h1, h4, h5, h6, h9, h10, h11, rfl⟩ ?_
      rintro s ⟨h0, h1, h4, h5, h6, h9, h10, h11, h19⟩
      refine .nsq ?_
      refine run_cond (t := decide (t11_6 ≥ (s2_2.length : Int))) h19 h (fun h => ?_) (fun h => ?_)
      · refine .seq ?_
        refine run_reg ?_
        refine e_end ?_
        refine g_v0 (.int .i64 1) rfl rfl ?_
        refine g_end ?_
        refine e_end ?_
        refine renew [(0, (Enc.enc (s1_1 : List Int))), (1, (Enc.enc (s2_2 : List Int))), (4, (.int .i64 1)), (5, (.int .i64 t11_6)), (6, (.int .i64 e_10)), (9, (Enc.enc (s1_1 : List Int))), (10, (.int .i64 (s1_1.length : Int))), (11, (.int .i64 t11_6))] ⟨h0, h1, rfl, h5, h6, h9, h10, h11⟩ ?_
        rintro s ⟨h0, h1, h4, h5, h6, h9, h10, h11⟩
        refine .nsq ?_
        refine .ret ?_
        have hr := Option.some.inj h
        subst hr
        exact rrA (res_tmp h4) rfl
      · refine .skip ?_
        refine .nsq ?_
        refine .seq ?_
        refine run_reg ?_
        refine e_end ?_
        refine g_v1 (t := 1) (u := (Enc.enc (s2_2 : List Int))) (Enc.enc (s2_2 : List Int)) h1 rfl rfl ?_
        refine g_v1 (t := 5) (u := (.int .i64 t11_6)) (.int .i64 t11_6) h5 rfl rfl ?_
        obtain ⟨e_11, E_e_11, h⟩ := bind_some h
        refine g_v (.ref .sh 0 [] (.int .i64 e_11)) (ev_idx (t := .sh) (lo := 0) (xs := s2_2) rfl rfl E_e_11 rfl rfl) ?_
        refine g_v1 (t := 22) (u := (.ref .sh 0 [] (.int .i64 e_11))) (.int .i64 e_11) rfl rfl rfl ?_
        refine g_v1 (t := 23) (u := (.int .i64 e_11)) (.int .i64 e_11) rfl rfl rfl ?_
        refine g_end ?_
        refine e_end ?_
        refine renew [(0, (Enc.enc (s1_1 : List Int))), (1, (Enc.enc (s2_2 : List Int))), (4, (.int .i64 0)), (6, (.int .i64 e_10)), (7, (.int .i64 e_11)), (9, (Enc.enc (s1_1 : List Int))), (10, (.int .i64 (s1_1.length : Int))), (11, (.int .i64 t11_6))] ⟨h0, h1, h4, h6, rfl, h9, h10, h11⟩ ?_
        rintro s ⟨h0, h1, h4, h6, h7, h9, h10, h11⟩
        refine .nsq ?_
        refine .seq ?_
        refine run_reg ?_
        refine e_end ?_
        refine g_v1 (t := 6) (u := (.int .i64 e_10)) (.int .i64 e_10) h6 rfl rfl ?_
        refine g_v1 (t := 7) (u := (.int .i64 e_11)) (.int .i64 e_11) h7 rfl rfl ?_
        obtain ⟨r_12, E_r_12, h⟩ := bind_some h
        refine g_call (m := 0) (al := false) (r := (Enc.enc (r_12 : Int))) [Enc.enc (e_10 : Int), Enc.enc (e_11 : Int)] (ta_cons (v := (.int .i64 e_10)) rfl rfl rfl (ta_cons (v := (.int .i64 e_11)) rfl rfl rfl ta_nil)) (H.c114 _ _ _ E_r_12) H.g114 rfl rfl rfl rfl ?_
        refine g_v1 (t := 26) (u := (.int .i64 r_12)) (.int .i64 r_12) rfl rfl rfl ?_
        refine g_end ?_
        refine e_end ?_
        refine renew [(0, (Enc.enc (s1_1 : List Int))), (1, (Enc.enc (s2_2 : List Int))), (4, (.int .i64 0)), (8, (.int .i64 r_12)), (9, (Enc.enc (s1_1 : List Int))), (10, (.int .i64 (s1_1.length : Int))), (11, (.int .i64 t11_6))] ⟨h0, h1, h4, rfl, h9, h10, h11⟩ ?_
        rintro s ⟨h0, h1, h4, h8, h9, h10, h11⟩
        refine .nsq ?_
        refine .seq ?_
        refine run_reg ?_
        refine e_end ?_
        refine g_v1 (t := 8) (u := (.int .i64 r_12)) (.int .i64 r_12) h8 rfl rfl ?_
        refine g_v1 (t := 27) (u := (.int .i64 r_12)) (.bool (r_12 != 0)) rfl rfl rfl ?_
        refine g_end ?_
        refine e_end ?_
        refine renew [(0, (Enc.enc (s1_1 : List Int))), (1, (Enc.enc (s2_2 : List Int))), (4, (.int .i64 0)), (8, (.int .i64 r_12)), (9, (Enc.enc (s1_1 : List Int))), (10, (.int .i64 (s1_1.length : Int))), (11, (.int .i64 t11_6)), (28, (.bool (r_12 != 0)))] ⟨h0, h1, h4, h8, h9, h10, h11, rfl⟩ ?_
        rintro s ⟨h0, h1, h4, h8, h9, h10, h11, h28⟩
        refine .nsq ?_
        refine run_cond (t := (r_12 != 0)) h28 h (fun h => ?_) (fun h => ?_)
        · refine .seq ?_
          refine run_reg ?_
          refine e_end ?_
          refine g_v1 (t := 8) (u := (.int .i64 r_12)) (.int .i64 r_12) h8 rfl rfl ?_
          refine g_v1 (t := 29) (u := (.int .i64 r_12)) (.int .i64 r_12) rfl rfl rfl ?_
          refine g_end ?_
          refine e_end ?_
          refine renew [(0, (Enc.enc (s1_1 : List Int))), (1, (Enc.enc (s2_2 : List Int))), (4, (.int .i64 r_12)), (9, (Enc.enc (s1_1 : List Int))), (10, (.int .i64 (s1_1.length : Int))), (11, (.int .i64 t11_6))] ⟨h0, h1, rfl, h9, h10, h11⟩ ?_
          rintro s ⟨h0, h1, h4, h9, h10, h11⟩
          refine .nsq ?_
          refine .ret ?_
          have hr := Option.some.inj h
          subst hr
          exact rrA (res_tmp h4) rfl
        · refine .skip ?_
          refine .nbk ?_
          refine .nsq ?_
          refine run_reg ?_
          refine e_end ?_
          refine g_v1 (t := 11) (u := (.int .i64 t11_6)) (.int .i64 (w64 (t11_6 + 1))) h11 rfl rfl ?_
          refine g_v1 (t := 30) (u := (.int .i64 (w64 (t11_6 + 1)))) (.int .i64 (w64 (t11_6 + 1))) rfl rfl rfl ?_
          refine g_end ?_
          refine e_end ?_
          refine renew [(0, (Enc.enc (s1_1 : List Int))), (1, (Enc.enc (s2_2 : List Int))), (4, (.int .i64 0)), (9, (Enc.enc (s1_1 : List Int))), (10, (.int .i64 (s1_1.length : Int))), (11, (.int .i64 (w64 (t11_6 + 1))))] ⟨h0, h1, h4, h9, h10, rfl⟩ ?_
          rintro s ⟨h0, h1, h4, h9, h10, h11⟩
          refine .nlp ?_
          exact ih (w64 (t11_6 + 1)) _ ⟨h0, h1, h4, h9, h10, h11⟩ h
    · refine .exit ?_
      refine .esq ?_
      refine .elp ?_
      refine .ebk ?_
      refine .nsq ?_
      refine .seq ?_
      refine .seq ?_
      refine run_reg ?_
      refine e_end ?_
      refine g_v1 (t := 0) (u := (Enc.enc (s1_1 : List Int))) (Enc.enc (s1_1 : List Int)) h0 rfl rfl ?_
      refine g_v (.int .i64 (s1_1.length : Int)) (ev_len (xs := s1_1) rfl) ?_
      refine g_v1 (t := 1) (u := (Enc.enc (s2_2 : List Int))) (Enc.enc (s2_2 : List Int)) h1 rfl rfl ?_
      refine g_v (.int .i64 (s2_2.length : Int)) (ev_len (xs := s2_2) rfl) ?_
      refine g_v2 (t1 := 32) (t2 := 34) (u1 := (.int .i64 (s1_1.length : Int))) (u2 := (.int .i64 (s2_2.length : Int))) (.bool (decide ((s1_1.length : Int) < (s2_2.length : Int)))) rfl rfl rfl rfl ?_
      refine g_end ?_
      refine e_end ?_
      refine renew [(4, (.int .i64 0)), (35, (.bool (decide ((s1_1.length : Int) < (s2_2.length : Int)))))] ⟨h4, rfl⟩ ?_
      rintro s ⟨h4, h35⟩
      refine .nsq ?_
      refine run_cond (t := decide ((s1_1.length : Int) < (s2_2.length : Int))) h35 h (fun h => ?_) (fun h => ?_)
      · refine .seq ?_
        refine run_reg ?_
        refine e_end ?_
        refine g_v0 (.int .i64 (-1)) rfl rfl ?_
        refine g_end ?_
        refine e_end ?_
        refine renew [(4, (.int .i64 (-1)))] rfl ?_
        rintro s h4
        refine .nsq ?_
        refine .ret ?_
        have hr := Option.some.inj h
        subst hr
        exact rrA (res_tmp h4) rfl
      · refine .skip ?_
        refine .nsq ?_
        refine .seq ?_
        refine run_reg ?_
        refine e_end ?_
        refine g_v0 (.int .i64 0) rfl rfl ?_
        refine g_end ?_
        refine e_end ?_
        refine renew [(4, (.int .i64 0))] rfl ?_
        rintro s h4
        refine .nsq ?_
        refine .ret ?_
        have hr := Option.some.inj h
        subst hr
        exact rrA (res_tmp h4) rfl
def slices_Compare (F : Nat) (s1_1 : (List Int)) (s2_2 : (List Int)) : Option Int :=
  slices_Compare_l1 F s1_1 s2_2 F 0
theorem t81 (H : H81 D σ F) (s1_1 : (List Int)) (s2_2 : (List Int)) (s : Nat → V) (hs : Facts [(0, (Enc.enc (s1_1 : List Int))), (1, (Enc.enc (s2_2 : List Int)))] s) (h : slices_Compare F s1_1 s2_2 = some r) : Run D σ (R81 r) (.run A81 []) s := by
  unfold slices_Compare at h
  obtain ⟨h0, h1⟩ := hs
  refine .seq ?_
  refine run_reg ?_
  refine e_end ?_
  refine g_v0 (.int .i64 0) rfl rfl ?_
  refine g_end ?_
  refine e_end ?_
  refine renew [(0, (Enc.enc (s1_1 : List Int))), (1, (Enc.enc (s2_2 : List Int))), (4, (.int .i64 0))] ⟨h0, h1, rfl⟩ ?_
  rintro s ⟨h0, h1, h4⟩
  refine .nsq ?_
  refine .seq ?_
  refine .seq ?_
  refine run_reg ?_
  refine e_end ?_
  refine g_v1 (t := 0) (u := (Enc.enc (s1_1 : List Int))) (Enc.enc (s1_1 : List Int)) h0 rfl rfl ?_
  refine g_v (.int .i64 (s1_1.length : Int)) (ev_len (xs := s1_1) rfl) ?_
  refine g_v0 (.int .i64 0) rfl rfl ?_
  refine g_end ?_
  refine e_end ?_
  refine renew [(0, (Enc.enc (s1_1 : List Int))), (1, (Enc.enc (s2_2 : List Int))), (4, (.int .i64 0)), (9, (Enc.enc (s1_1 : List Int))), (10, (.int .i64 (s1_1.length : Int))), (11, (.int .i64 0))] ⟨h0, h1, h4, rfl, rfl, rfl⟩ ?_
  rintro s ⟨h0, h1, h4, h9, h10, h11⟩
  refine .nsq ?_
  refine .block ?_
  refine .loop ?_
  exact t_f81_l1 H s1_1 s2_2 F 0 _ ⟨h0, h1, h4, h9, h10, h11⟩ h
end
def e81 (F : Nat) : Ent := ⟨81, da (fun (x : ((List Int) × (List Int) × Unit)) => slices_Compare F x.1 x.2.1) (fun (r : Int) => (Enc.enc (r : Int))), 0, false, selF []⟩
theorem p81 {F : Nat} {x0 : (List Int)} {x1 : (List Int)} {r : Int} (h : slices_Compare F x0 x1 = some r) : (e81 F).den [Enc.enc x0, Enc.enc x1] = some (Enc.enc (r : Int)) := da_put (f := fun (x : ((List Int) × (List Int) × Unit)) => slices_Compare F x.1 x.2.1) (t := fun (r : Int) => (Enc.enc (r : Int))) (x0, x1, ()) h
theorem o81 {D : Den} {σ : Sig} {F : Nat} (hF : Fits2 Try.prog D σ) (H : H81 D σ F) : (e81 F).Ok Try.prog := by
  refine ⟨fun args r h => ?_, ⟨Try.f81, Try.func81, rfl, rfl⟩⟩
  obtain ⟨⟨x0, x1, _⟩, y, rfl, hy, rfl⟩ := da_open h
  exact contract_run hF (by kernel_rfl) Try.func81 rfl c81 (show 2 ≤ Try.f81.ntmps by decide) (t81 H x0 x1 _ ⟨rfl, rfl⟩ hy)
/- loop.example/g01109/impl.IsGraph -/
def A53_5 : AC := (AC.cond (O.t 48) (AC.seq (AC.reg [] [(I.mk (some 2) none false (X.v (A.mov (O.k (V.bool false)))))] []) AC.ret) AC.skip)
def A53_4 : AC := (AC.seq (AC.reg [] [(I.mk (some 17) none false (X.v (A.idxA (O.t 4) (O.k (V.int IntKind.i64 (Int.ofNat 0))) 2 1))), (I.mk (some 18) none false (X.v (A.load Sh.s (O.t 17)))), (I.mk (some 19) none false (X.v (A.bin BinOp.lss (O.t 18) (O.k (V.int IntKind.i64 (Int.ofNat 0)))))), (I.mk (some 20) none false (X.v (A.mov (O.t 19)))), (I.mk (some 21) (some (20, false)) false (X.v (A.idxA (O.t 4) (O.k (V.int IntKind.i64 (Int.ofNat 0))) 2 1))), (I.mk (some 22) (some (20, false)) false (X.v (A.load Sh.s (O.t 21)))), (I.mk (some 23) (some (20, false)) false (X.v (A.idxA (O.t 4) (O.k (V.int IntKind.i64 (Int.ofNat 1))) 2 1))), (I.mk (some 24) (some (20, false)) false (X.v (A.load Sh.s (O.t 23)))), (I.mk (some 25) (some (20, false)) false (X.v (A.bin BinOp.geq (O.t 22) (O.t 24)))), (I.mk (some 26) none false (X.v (A.pick (O.t 20) (O.k (V.bool true)) (O.t 25)))), (I.mk (some 27) none false (X.v (A.mov (O.t 26)))), (I.mk (some 28) (some (27, false)) false (X.v (A.idxA (O.t 4) (O.k (V.int IntKind.i64 (Int.ofNat 1))) 2 1))), (I.mk (some 29) (some (27, false)) false (X.v (A.load Sh.s (O.t 28)))), (I.mk (some 30) (some (27, false)) false (X.v (A.fld (O.t 1) 0 0))), (I.mk (some 31) (some (27, false)) false (X.v (A.load Sh.s (O.t 30)))), (I.mk (some 32) (some (27, false)) false (X.v (A.bin BinOp.geq (O.t 29) (O.t 31)))), (I.mk (some 33) none false (X.v (A.pick (O.t 27) (O.k (V.bool true)) (O.t 32)))), (I.mk (some 34) none false (X.v (A.mov (O.t 33)))), (I.mk (some 35) (some (34, false)) false (X.v (A.mov (O.t 3)))), (I.mk (some 36) (some (34, false)) false (X.v (A.bin BinOp.gtr (O.t 35) (O.k (V.int IntKind.i64 (Int.ofNat 0)))))), (I.mk (some 37) (some (34, false)) false (X.v (A.mov (O.t 36)))), (I.mk (some 38) (some (37, true)) false (X.v (A.fld (O.t 1) 1 1))), (I.mk (some 39) (some (37, true)) false (X.v (A.load Sh.p (O.t 38)))), (I.mk (some 40) (some (37, true)) false (X.v (A.mov (O.t 3)))), (I.mk (some 41) (some (37, true)) false (X.v (A.bin BinOp.sub (O.t 40) (O.k (V.int IntKind.i64 (Int.ofNat 1)))))), (I.mk (some 42) (some (37, true)) false (X.v (A.idx (O.t 39) (O.t 41) 2))), (I.mk (some 43) (some (37, true)) false (X.v (A.sliceA (O.t 42) 2 Sh.s))), (I.mk (some 44) (some (37, true)) false (X.v (A.sliceA (O.t 4) 2 Sh.s))), (I.mk (some 45) (some (37, true)) false (X.call (O.k (V.fn 81 [] [])) [(O.t 43), (O.t 44)])), (I.mk (some 46) (some (37, true)) false (X.v (A.bin BinOp.geq (O.t 45) (O.k (V.int IntKind.i64 (Int.ofNat 0)))))), (I.mk (some 47) (some (34, false)) false (X.v (A.pick (O.t 37) (O.t 46) (O.k (V.bool false))))), (I.mk (some 48) none false (X.v (A.pick (O.t 34) (O.k (V.bool true)) (O.t 47))))] []) A53_5)
def A53_6 : AC := (AC.reg [] [(I.mk (some 49) none false (X.v (A.bin BinOp.add (O.t 12) (O.k (V.int IntKind.i64 (Int.ofNat 1)))))), (I.mk (some 12) none false (X.v (A.mov (O.t 49))))] [])
def A53_3 : AC := (AC.seq (AC.block 1 (AC.seq (AC.reg [.clr [4]] [(I.mk (some 14) none false (X.v (A.mov (O.t 12)))), (I.mk (some 15) none false (X.v (A.idx (O.t 10) (O.t 12) 2))), (I.mk (some 16) none false (X.v (A.load (Sh.ag [Sh.s, Sh.s]) (O.t 15)))), (I.mk (some 4) none false (X.alloc (V.agg [(V.int IntKind.i64 (Int.ofNat 0)), (V.int IntKind.i64 (Int.ofNat 0))]))), (I.mk (some 3) none false (X.v (A.mov (O.t 14)))), (I.mk none none false (X.store (Sh.ag [Sh.s, Sh.s]) (O.t 4) (O.t 16)))] []) A53_4)) A53_6)
def A53_2 : AC := (AC.seq (AC.cond (O.t 13) AC.skip (AC.exit 0)) A53_3)
def A53_1 : AC := (AC.seq (AC.reg [] [(I.mk (some 13) none false (X.v (A.bin BinOp.lss (O.t 12) (O.t 11))))] []) A53_2)
def A53_7 : AC := (AC.seq (AC.reg [] [(I.mk (some 2) none false (X.v (A.mov (O.k (V.bool true)))))] []) AC.ret)
def A53_9 : AC := (AC.cond (O.t 8) (AC.seq (AC.reg [] [(I.mk (some 2) none false (X.v (A.mov (O.k (V.bool false)))))] []) AC.ret) AC.skip)
def A53_11 : AC := (AC.block 0 (AC.loop A53_1))
def A53_10 : AC := (AC.seq (AC.seq (AC.reg [] [(I.mk (some 9) none false (X.v (A.fld (O.t 1) 1 1))), (I.mk (some 10) none false (X.v (A.load Sh.p (O.t 9)))), (I.mk (some 11) none false (X.v (A.len (O.t 10)))), (I.mk (some 12) none false (X.v (A.mov (O.k (V.int IntKind.i64 (Int.ofNat 0))))))] []) A53_11) A53_7)
def A53_8 : AC := (AC.seq (AC.seq (AC.reg [] [(I.mk (some 5) none false (X.v (A.fld (O.t 1) 0 0))), (I.mk (some 6) none false (X.v (A.load Sh.s (O.t 5)))), (I.mk (some 7) none false (X.call (O.k (V.fn 62 [] [])) [(O.t 6), (O.k (V.int IntKind.i64 (Int.ofNat 0))), (O.k (V.int IntKind.i64 (Int.ofNat 8)))])), (I.mk (some 8) none false (X.v (A.un UnOp.not (O.t 7))))] []) A53_9) A53_10)
def A53 : AC := (AC.seq (AC.reg [.clr [1]] [(I.mk (some 1) none false (X.box (O.t 0))), (I.mk (some 2) none false (X.v (A.mov (O.k (V.bool false)))))] []) A53_8)
def an53 : List An := [{ id := 0, pre := [.clr [1]], ep := [], lin := [], sp := [] }, { id := 5, pre := [.clr [4]], ep := [], lin := [], sp := [] }]
theorem c53 : cC Try.prog Try.f53.ntmps an53 (Try.f53.body.getD .skip) = some A53 := by kernel_rfl
structure H53 (D : Den) (σ : Sig) (F : Nat) : Prop where
  c62 : ∀ (x0 : Int) (x1 : Int) (x2 : Int) r, i_within F x0 x1 x2 = some r → D 62 [Enc.enc x0, Enc.enc x1, Enc.enc x2] = some (Enc.enc (r : Bool))
  g62 : σ 62 = some (0, false)
  c81 : ∀ (x0 : (List Int)) (x1 : (List Int)) r, slices_Compare F x0 x1 = some r → D 81 [Enc.enc x0, Enc.enc x1] = some (Enc.enc (r : Int))
  g81 : σ 81 = some (0, false)
abbrev R53 (r : Bool) : (Nat → V) → Prop := RR Try.prog [.tmp 2] 0 false (Enc.enc (r : Bool))
section
variable {D : Den} {σ : Sig} {F : Nat} {r : Bool}
def i_IsGraph_j1 (F : Nat) (g_1 : (Int × (List (Int × Int)))) (t12_9 : Int) (c1 : Int → Option Bool) (t48_19 : Bool) : Option Bool :=
  bif t48_19 then
    some false
  else
    c1 (w64 (t12_9 + 1))
theorem t_f53_j1 (H : H53 D σ F) (g_1 : (Int × (List (Int × Int)))) (t12_9 : Int) (c1 : Int → Option Bool) (Hc1 : ∀ (t12_9 : Int) (s : Nat → V), Facts [(1, (.ref (.bx 1) 0 [] (.agg [(.int .i64 g_1.1), (Enc.enc (g_1.2 : List (Int × Int)))]))), (2, (.bool false)), (10, (Enc.enc (g_1.2 : List (Int × Int)))), (11, (.int .i64 (g_1.2.length : Int))), (12, (.int .i64 t12_9))] s → c1 t12_9 = some r → Run D σ (R53 r) (.run A53_1 [.lp A53_1, .bk 0, .sq A53_7]) s) (t48_19 : Bool) (s : Nat → V) (hs : Facts [(1, (.ref (.bx 1) 0 [] (.agg [(.int .i64 g_1.1), (Enc.enc (g_1.2 : List (Int × Int)))]))), (2, (.bool false)), (10, (Enc.enc (g_1.2 : List (Int × Int)))), (11, (.int .i64 (g_1.2.length : Int))), (12, (.int .i64 t12_9)), (48, (.bool t48_19))] s) (h : i_IsGraph_j1 F g_1 t12_9 c1 t48_19 = some r) : Run D σ (R53 r) (.nrm [.sq A53_5, .bk 1, .sq A53_6, .lp A53_1, .bk 0, .sq A53_7]) s := by
  unfold i_IsGraph_j1 at h
  obtain ⟨h1, h2, h10, h11, h12, h48⟩ := hs
  refine .nsq ?_
  refine run_cond (t := t48_19) h48 h (fun h => ?_) (fun h => ?_)
  · refine .seq ?_
    refine run_reg ?_
    refine e_end ?_
    refine g_v0 (.bool false) rfl rfl ?_
    refine g_end ?_
    refine e_end ?_
    refine renew [(1, (.ref (.bx 1) 0 [] (.agg [(.int .i64 g_1.1), (Enc.enc (g_1.2 : List (Int × Int)))]))), (2, (.bool false)), (10, (Enc.enc (g_1.2 : List (Int × Int)))), (11, (.int .i64 (g_1.2.length : Int))), (12, (.int .i64 t12_9))] ⟨h1, rfl, h10, h11, h12⟩ ?_
    rintro s ⟨h1, h2, h10, h11, h12⟩
    refine .nsq ?_
    refine .ret ?_
    have hr := Option.some.inj h
    subst hr
    exact rrA (res_tmp h2) rfl
  · refine .skip ?_
    refine .nbk ?_
    refine .nsq ?_
    refine run_reg ?_
    refine e_end ?_
    refine g_v1 (t := 12) (u := (.int .i64 t12_9)) (.int .i64 (w64 (t12_9 + 1))) h12 rfl rfl ?_
    refine g_v1 (t := 49) (u := (.int .i64 (w64 (t12_9 + 1)))) (.int .i64 (w64 (t12_9 + 1))) rfl rfl rfl ?_
    refine g_end ?_
    refine e_end ?_
    refine renew [(1, (.ref (.bx 1) 0 [] (.agg [(.int .i64 g_1.1), (Enc.enc (g_1.2 : List (Int × Int)))]))), (2, (.bool false)), (10, (Enc.enc (g_1.2 : List (Int × Int)))), (11, (.int .i64 (g_1.2.length : Int))), (12, (.int .i64 (w64 (t12_9 + 1))))] ⟨h1, h2, h10, h11, rfl⟩ ?_
    rintro s ⟨h1, h2, h10, h11, h12⟩
    refine .nlp ?_
    exact Hc1 (w64 (t12_9 + 1)) _ ⟨h1, h2, h10, h11, h12⟩ h
def i_IsGraph_l1 (F : Nat) (g_1 : (Int × (List (Int × Int))))  : Nat → Int → Option Bool
  | 0, _ => none
  | k + 1, t12_9 =>
    bif decide (t12_9 < (g_1.2.length : Int)) then
      (idx g_1.2 t12_9).bind fun e_16 =>
      bif decide (e_16.1 < 0) then
        i_IsGraph_j1 F g_1 t12_9 (i_IsGraph_l1 F g_1 k) true
      else
        bif decide (e_16.1 ≥ e_16.2) then
          i_IsGraph_j1 F g_1 t12_9 (i_IsGraph_l1 F g_1 k) true
        else
          bif decide (e_16.2 ≥ g_1.1) then
            i_IsGraph_j1 F g_1 t12_9 (i_IsGraph_l1 F g_1 k) true
          else
            bif decide (t12_9 > 0) then
              (idx g_1.2 (w64 (t12_9 - 1))).bind fun e_20 =>
              (slices_Compare F [e_20.1, e_20.2] [e_16.1, e_16.2]).bind fun r_21 =>
              i_IsGraph_j1 F g_1 t12_9 (i_IsGraph_l1 F g_1 k) (decide (r_21 ≥ 0))
            else
              i_IsGraph_j1 F g_1 t12_9 (i_IsGraph_l1 F g_1 k) false
    else
      some true
theorem t_f53_l1 (H : H53 D σ F) (g_1 : (Int × (List (Int × Int))))  : ∀ (k : Nat) (t12_9 : Int) (s : Nat → V), Facts [(1, (.ref (.bx 1) 0 [] (.agg [(.int .i64 g_1.1), (Enc.enc (g_1.2 : List (Int × Int)))]))), (2, (.bool false)), (10, (Enc.enc (g_1.2 : List (Int × Int)))), (11, (.int .i64 (g_1.2.length : Int))), (12, (.int .i64 t12_9))] s → i_IsGraph_l1 F g_1 k t12_9 = some r → Run D σ (R53 r) (.run A53_1 [.lp A53_1, .bk 0, .sq A53_7]) s := by
  intro k
  induction k with
  | zero => intro t12_9 s _ h; exact nomatch (h : (none : Option _) = some r)
  | succ k ih =>
    intro t12_9 s hs h
    rw [i_IsGraph_l1] at h
    obtain ⟨h1, h2, h10, h11, h12⟩ := hs
    refine .seq ?_
    refine run_reg ?_
    refine e_end ?_
    refine g_v2 (t1 := 12) (t2 := 11) (u1 := (.int .i64 t12_9)) (u2 := (.int .i64 (g_1.2.length : Int))) (.bool (decide (t12_9 < (g_1.2.length : Int)))) h12 h11 rfl rfl ?_
    refine g_end ?_
    refine e_end ?_
    refine renew [(1, (.ref (.bx 1) 0 [] (.agg [(.int .i64 g_1.1), (Enc.enc (g_1.2 : List (Int × Int)))]))), (2, (.bool false)), (10, (Enc.enc (g_1.2 : List (Int × Int)))), (11, (.int .i64 (g_1.2.length : Int))), (12, (.int .i64 t12_9)), (13, (.bool (decide (t12_9 < (g_1.2.length : Int)))))] ⟨h1, h2, h10, h11, h12, rfl⟩ ?_
    rintro s ⟨h1, h2, h10, h11, h12, h13⟩
    refine .nsq ?_
    refine .seq ?_
    refine run_cond (t := decide (t12_9 < (g_1.2.length : Int))) h13 h (fun h => ?_) (fun h => ?_)
    · refine .skip ?_
      refine .nsq ?_
      refine .seq ?_
      refine .block ?_
      refine .seq ?_
      refine run_reg ?_
      refine e_clr ?_
      refine e_end ?_
      refine g_v1 (t := 12) (u := (.int .i64 t12_9)) (.int .i64 t12_9) (keep_clear (s := s) (pk := [4]) h12 rfl rfl) rfl rfl ?_
      obtain ⟨e_16, E_e_16, h⟩ := bind_some h
      refine g_v (.ref .sh 0 [] (.agg [(.int .i64 e_16.1), (.int .i64 e_16.2)])) (ev_idx (t := .sh) (lo := 0) (xs := g_1.2) (keep_clear (s := s) (pk := [4]) h10 rfl (Enc.map_enc _ (g_1.2 : List (Int × Int)))) (keep_clear (s := s) (pk := [4]) h12 rfl rfl) E_e_16 rfl rfl) ?_
      refine g_v1 (t := 15) (u := (.ref .sh 0 [] (.agg [(.int .i64 e_16.1), (.int .i64 e_16.2)]))) (.agg [(.int .i64 e_16.1), (.int .i64 e_16.2)]) rfl rfl rfl ?_
      refine g_alloc (gone_clear (s := s) (pk := [4]) (t := 4) rfl) ?_
      refine g_v1 (t := 14) (u := (.int .i64 t12_9)) (.int .i64 t12_9) rfl rfl rfl ?_
      refine g_store (.agg [(.int .i64 e_16.1), (.int .i64 e_16.2)]) (rd_of rfl rfl) (rd_of rfl rfl) (by refine ⟨by decide, by decide, rfl, rfl, rfl, ?_⟩; first | rfl | simp [V.toks, V.tokss, Enc.toks_enc]) ?_
      refine g_end ?_
      refine e_end ?_
      refine renew [(1, (.ref (.bx 1) 0 [] (.agg [(.int .i64 g_1.1), (Enc.enc (g_1.2 : List (Int × Int)))]))), (2, (.bool false)), (3, (.int .i64 t12_9)), (4, (.ref (.bx 4) 0 [] (.agg [(.int .i64 e_16.1), (.int .i64 e_16.2)]))), (10, (Enc.enc (g_1.2 : List (Int × Int)))), (11, (.int .i64 (g_1.2.length : Int))), (12, (.int .i64 t12_9))] ⟨(keep_mut (keep_clear (s := s) (pk := [4]) h1 rfl (map_bx rfl (map_agg (maps_cons rfl (maps_cons (Enc.map_enc _ (g_1.2 : List (Int × Int))) maps_nil))))) (mut_ref_ne rfl rfl (mut_agg (muts_cons rfl (muts_cons (Enc.mut_enc _ _ _ _ (g_1.2 : List (Int × Int))) rfl))))), (keep_mut (keep_clear (s := s) (pk := [4]) h2 rfl rfl) rfl), (keep_mut rfl rfl), (keep_mut rfl rfl), (keep_mut (keep_clear (s := s) (pk := [4]) h10 rfl (Enc.map_enc _ (g_1.2 : List (Int × Int)))) (Enc.mut_enc _ _ _ _ (g_1.2 : List (Int × Int)))), (keep_mut (keep_clear (s := s) (pk := [4]) h11 rfl rfl) rfl), (keep_mut (keep_clear (s := s) (pk := [4]) h12 rfl rfl) rfl)⟩ ?_
      rintro s ⟨h1, h2, h3, h4, h10, h11, h12⟩
      refine .nsq ?_
      refine .seq ?_
      refine run_reg ?_
      refine e_end ?_
      refine g_v1 (t := 4) (u := (.ref (.bx 4) 0 [] (.agg [(.int .i64 e_16.1), (.int .i64 e_16.2)]))) (.ref (.bx 4) 0 [0] (.int .i64 e_16.1)) h4 rfl rfl ?_
      refine g_v1 (t := 17) (u := (.ref (.bx 4) 0 [0] (.int .i64 e_16.1))) (.int .i64 e_16.1) rfl rfl rfl ?_
      refine g_v1 (t := 18) (u := (.int .i64 e_16.1)) (.bool (decide (e_16.1 < 0))) rfl rfl rfl ?_
      refine g_v1 (t := 19) (u := (.bool (decide (e_16.1 < 0)))) (.bool (decide (e_16.1 < 0))) rfl rfl rfl ?_
      refine split_on (c := decide (e_16.1 < 0)) h (fun hg4 h => ?_) (fun hg4 h => ?_)
      · refine g_no (Eq.trans (b := .bool (decide (e_16.1 < 0))) rfl (congrArg V.bool hg4)) ?_
        refine g_no (Eq.trans (b := .bool (decide (e_16.1 < 0))) rfl (congrArg V.bool hg4)) ?_
        refine g_no (Eq.trans (b := .bool (decide (e_16.1 < 0))) rfl (congrArg V.bool hg4)) ?_
        refine g_no (Eq.trans (b := .bool (decide (e_16.1 < 0))) rfl (congrArg V.bool hg4)) ?_
        refine g_no (Eq.trans (b := .bool (decide (e_16.1 < 0))) rfl (congrArg V.bool hg4)) ?_
        refine g_v2 (t1 := 20) (t2 := 25) (u1 := (.bool true)) (u2 := (.tup [])) (.bool true) (Eq.trans (b := .bool (decide (e_16.1 < 0))) rfl (congrArg V.bool hg4)) rfl rfl rfl ?_
        refine g_v1 (t := 26) (u := (.bool true)) (.bool true) rfl rfl rfl ?_
        refine g_no rfl ?_
        refine g_no rfl ?_
        refine g_no rfl ?_
        refine g_no rfl ?_
        refine g_no rfl ?_
        refine g_v2 (t1 := 27) (t2 := 32) (u1 := (.bool true)) (u2 := (.tup [])) (.bool true) rfl rfl rfl rfl ?_
        refine g_v1 (t := 33) (u := (.bool true)) (.bool true) rfl rfl rfl ?_
        refine g_no rfl ?_
        refine g_no rfl ?_
        refine g_no rfl ?_
        refine g_skip rfl ?_
        refine g_skip rfl ?_
        refine g_skip rfl ?_
        refine g_skip rfl ?_
        refine g_skip rfl ?_
        refine g_skip rfl ?_
        refine g_skip rfl ?_
        refine g_skip rfl ?_
        refine g_skip rfl ?_
        refine g_no rfl ?_
        refine g_v2 (t1 := 34) (t2 := 47) (u1 := (.bool true)) (u2 := (.tup [])) (.bool true) rfl rfl rfl rfl ?_
        refine g_end ?_
        refine e_end ?_
        refine renew [(1, (.ref (.bx 1) 0 [] (.agg [(.int .i64 g_1.1), (Enc.enc (g_1.2 : List (Int × Int)))]))), (2, (.bool false)), (10, (Enc.enc (g_1.2 : List (Int × Int)))), (11, (.int .i64 (g_1.2.length : Int))), (12, (.int .i64 t12_9)), (48, (.bool true))] ⟨h1, h2, h10, h11, h12, rfl⟩ ?_
        rintro s ⟨h1, h2, h10, h11, h12, h48⟩
        exact t_f53_j1 H g_1 t12_9 (i_IsGraph_l1 F g_1 k) ih true _ ⟨h1, h2, h10, h11, h12, h48⟩ h
      · refine g_yes (Eq.trans (b := .bool (decide (e_16.1 < 0))) rfl (congrArg V.bool hg4)) (g_v1 (t := 4) (u := (.ref (.bx 4) 0 [] (.agg [(.int .i64 e_16.1), (.int .i64 e_16.2)]))) (.ref (.bx 4) 0 [0] (.int .i64 e_16.1)) h4 rfl rfl ?_)
        refine g_yes (Eq.trans (b := .bool (decide (e_16.1 < 0))) rfl (congrArg V.bool hg4)) (g_v1 (t := 21) (u := (.ref (.bx 4) 0 [0] (.int .i64 e_16.1))) (.int .i64 e_16.1) rfl rfl rfl ?_)
        refine g_yes (Eq.trans (b := .bool (decide (e_16.1 < 0))) rfl (congrArg V.bool hg4)) (g_v1 (t := 4) (u := (.ref (.bx 4) 0 [] (.agg [(.int .i64 e_16.1), (.int .i64 e_16.2)]))) (.ref (.bx 4) 0 [1] (.int .i64 e_16.2)) h4 rfl rfl ?_)
        refine g_yes (Eq.trans (b := .bool (decide (e_16.1 < 0))) rfl (congrArg V.bool hg4)) (g_v1 (t := 23) (u := (.ref (.bx 4) 0 [1] (.int .i64 e_16.2))) (.int .i64 e_16.2) rfl rfl rfl ?_)
        refine g_yes (Eq.trans (b := .bool (decide (e_16.1 < 0))) rfl (congrArg V.bool hg4)) (g_v2 (t1 := 22) (t2 := 24) (u1 := (.int .i64 e_16.1)) (u2 := (.int .i64 e_16.2)) (.bool (decide (e_16.1 ≥ e_16.2))) rfl rfl rfl rfl ?_)
        refine g_v2 (t1 := 20) (t2 := 25) (u1 := (.bool false)) (u2 := (.bool (decide (e_16.1 ≥ e_16.2)))) (.bool (decide (e_16.1 ≥ e_16.2))) (Eq.trans (b := .bool (decide (e_16.1 < 0))) rfl (congrArg V.bool hg4)) rfl rfl rfl ?_
        refine g_v1 (t := 26) (u := (.bool (decide (e_16.1 ≥ e_16.2)))) (.bool (decide (e_16.1 ≥ e_16.2))) rfl rfl rfl ?_
        refine split_on (c := decide (e_16.1 ≥ e_16.2)) h (fun hg11 h => ?_) (fun hg11 h => ?_)
        · refine g_no (Eq.trans (b := .bool (decide (e_16.1 ≥ e_16.2))) rfl (congrArg V.bool hg11)) ?_
          refine g_no (Eq.trans (b := .bool (decide (e_16.1 ≥ e_16.2))) rfl (congrArg V.bool hg11)) ?_
          refine g_no (Eq.trans (b := .bool (decide (e_16.1 ≥ e_16.2))) rfl (congrArg V.bool hg11)) ?_
          refine g_no (Eq.trans (b := .bool (decide (e_16.1 ≥ e_16.2))) rfl (congrArg V.bool hg11)) ?_
          refine g_no (Eq.trans (b := .bool (decide (e_16.1 ≥ e_16.2))) rfl (congrArg V.bool hg11)) ?_
          refine g_v2 (t1 := 27) (t2 := 32) (u1 := (.bool true)) (u2 := (.tup [])) (.bool true) (Eq.trans (b := .bool (decide (e_16.1 ≥ e_16.2))) rfl (congrArg V.bool hg11)) rfl rfl rfl ?_
          refine g_v1 (t := 33) (u := (.bool true)) (.bool true) rfl rfl rfl ?_
          refine g_no rfl ?_
          refine g_no rfl ?_
          refine g_no rfl ?_
          refine g_skip rfl ?_
          refine g_skip rfl ?_
          refine g_skip rfl ?_
          refine g_skip rfl ?_
          refine g_skip rfl ?_
          refine g_skip rfl ?_
          refine g_skip rfl ?_
          refine g_skip rfl ?_
          refine g_skip rfl ?_
          refine g_no rfl ?_
          refine g_v2 (t1 := 34) (t2 := 47) (u1 := (.bool true)) (u2 := (.tup [])) (.bool true) rfl rfl rfl rfl ?_
          refine g_end ?_
          refine e_end ?_
          refine renew [(1, (.ref (.bx 1) 0 [] (.agg [(.int .i64 g_1.1), (Enc.enc (g_1.2 : List (Int × Int)))]))), (2, (.bool false)), (10, (Enc.enc (g_1.2 : List (Int × Int)))), (11, (.int .i64 (g_1.2.length : Int))), (12, (.int .i64 t12_9)), (48, (.bool true))] ⟨h1, h2, h10, h11, h12, rfl⟩ ?_
          rintro s ⟨h1, h2, h10, h11, h12, h48⟩
          exact t_f53_j1 H g_1 t12_9 (i_IsGraph_l1 F g_1 k) ih true _ ⟨h1, h2, h10, h11, h12, h48⟩ h
        · refine g_yes (Eq.trans (b := .bool (decide (e_16.1 ≥ e_16.2))) rfl (congrArg V.bool hg11)) (g_v1 (t := 4) (u := (.ref (.bx 4) 0 [] (.agg [(.int .i64 e_16.1), (.int .i64 e_16.2)]))) (.ref (.bx 4) 0 [1] (.int .i64 e_16.2)) h4 rfl rfl ?_)
          refine g_yes (Eq.trans (b := .bool (decide (e_16.1 ≥ e_16.2))) rfl (congrArg V.bool hg11)) (g_v1 (t := 28) (u := (.ref (.bx 4) 0 [1] (.int .i64 e_16.2))) (.int .i64 e_16.2) rfl rfl rfl ?_)
          refine g_yes (Eq.trans (b := .bool (decide (e_16.1 ≥ e_16.2))) rfl (congrArg V.bool hg11)) (g_v1 (t := 1) (u := (.ref (.bx 1) 0 [] (.agg [(.int .i64 g_1.1), (Enc.enc (g_1.2 : List (Int × Int)))]))) (.ref (.bx 1) 0 [0] (.int .i64 g_1.1)) h1 rfl rfl ?_)
          refine g_yes (Eq.trans (b := .bool (decide (e_16.1 ≥ e_16.2))) rfl (congrArg V.bool hg11)) (g_v1 (t := 30) (u := (.ref (.bx 1) 0 [0] (.int .i64 g_1.1))) (.int .i64 g_1.1) rfl rfl rfl ?_)
          refine g_yes (Eq.trans (b := .bool (decide (e_16.1 ≥ e_16.2))) rfl (congrArg V.bool hg11)) (g_v2 (t1 := 29) (t2 := 31) (u1 := (.int .i64 e_16.2)) (u2 := (.int .i64 g_1.1)) (.bool (decide (e_16.2 ≥ g_1.1))) rfl rfl rfl rfl ?_)
          refine g_v2 (t1 := 27) (t2 := 32) (u1 := (.bool false)) (u2 := (.bool (decide (e_16.2 ≥ g_1.1)))) (.bool (decide (e_16.2 ≥ g_1.1))) (Eq.trans (b := .bool (decide (e_16.1 ≥ e_16.2))) rfl (congrArg V.bool hg11)) rfl rfl rfl ?_
          refine g_v1 (t := 33) (u := (.bool (decide (e_16.2 ≥ g_1.1)))) (.bool (decide (e_16.2 ≥ g_1.1))) rfl rfl rfl ?_
          refine split_on (c := decide (e_16.2 ≥ g_1.1)) h (fun hg18 h => ?_) (fun hg18 h => ?_)
          · refine g_no (Eq.trans (b := .bool (decide (e_16.2 ≥ g_1.1))) rfl (congrArg V.bool hg18)) ?_
            refine g_no (Eq.trans (b := .bool (decide (e_16.2 ≥ g_1.1))) rfl (congrArg V.bool hg18)) ?_
            refine g_no (Eq.trans (b := .bool (decide (e_16.2 ≥ g_1.1))) rfl (congrArg V.bool hg18)) ?_
            refine g_skip rfl ?_
            refine g_skip rfl ?_
            refine g_skip rfl ?_
            refine g_skip rfl ?_
            refine g_skip rfl ?_
            refine g_skip rfl ?_
            refine g_skip rfl ?_
            refine g_skip rfl ?_
            refine g_skip rfl ?_
            refine g_no (Eq.trans (b := .bool (decide (e_16.2 ≥ g_1.1))) rfl (congrArg V.bool hg18)) ?_
            refine g_v2 (t1 := 34) (t2 := 47) (u1 := (.bool true)) (u2 := (.tup [])) (.bool true) (Eq.trans (b := .bool (decide (e_16.2 ≥ g_1.1))) rfl (congrArg V.bool hg18)) rfl rfl rfl ?_
            refine g_end ?_
            refine e_end ?_
            refine renew [(1, (.ref (.bx 1) 0 [] (.agg [(.int .i64 g_1.1), (Enc.enc (g_1.2 : List (Int × Int)))]))), (2, (.bool false)), (10, (Enc.enc (g_1.2 : List (Int × Int)))), (11, (.int .i64 (g_1.2.length : Int))), (12, (.int .i64 t12_9)), (48, (.bool true))] ⟨h1, h2, h10, h11, h12, rfl⟩ ?_
            rintro s ⟨h1, h2, h10, h11, h12, h48⟩
            exact t_f53_j1 H g_1 t12_9 (i_IsGraph_l1 F g_1 k) ih true _ ⟨h1, h2, h10, h11, h12, h48⟩ h
          · refine g_yes (Eq.trans (b := .bool (decide (e_16.2 ≥ g_1.1))) rfl (congrArg V.bool hg18)) (g_v1 (t := 3) (u := (.int .i64 t12_9)) (.int .i64 t12_9) h3 rfl rfl ?_)
            refine g_yes (Eq.trans (b := .bool (decide (e_16.2 ≥ g_1.1))) rfl (congrArg V.bool hg18)) (g_v1 (t := 35) (u := (.int .i64 t12_9)) (.bool (decide (t12_9 > 0))) rfl rfl rfl ?_)
            refine g_yes (Eq.trans (b := .bool (decide (e_16.2 ≥ g_1.1))) rfl (congrArg V.bool hg18)) (g_v1 (t := 36) (u := (.bool (decide (t12_9 > 0)))) (.bool (decide (t12_9 > 0))) rfl rfl rfl ?_)
            refine split_on (c := decide (t12_9 > 0)) h (fun hg21 h => ?_) (fun hg21 h => ?_)
            · refine g_yes (Eq.trans (b := .bool (decide (t12_9 > 0))) rfl (congrArg V.bool hg21)) (g_v1 (t := 1) (u := (.ref (.bx 1) 0 [] (.agg [(.int .i64 g_1.1), (Enc.enc (g_1.2 : List (Int × Int)))]))) (.ref (.bx 1) 0 [1] (Enc.enc (g_1.2 : List (Int × Int)))) h1 rfl rfl ?_)
              refine g_yes (Eq.trans (b := .bool (decide (t12_9 > 0))) rfl (congrArg V.bool hg21)) (g_v1 (t := 38) (u := (.ref (.bx 1) 0 [1] (Enc.enc (g_1.2 : List (Int × Int))))) (Enc.enc (g_1.2 : List (Int × Int))) rfl rfl rfl ?_)
              refine g_yes (Eq.trans (b := .bool (decide (t12_9 > 0))) rfl (congrArg V.bool hg21)) (g_v1 (t := 3) (u := (.int .i64 t12_9)) (.int .i64 t12_9) h3 rfl rfl ?_)
              refine g_yes (Eq.trans (b := .bool (decide (t12_9 > 0))) rfl (congrArg V.bool hg21)) (g_v1 (t := 40) (u := (.int .i64 t12_9)) (.int .i64 (w64 (t12_9 - 1))) rfl rfl rfl ?_)
              obtain ⟨e_20, E_e_20, h⟩ := bind_some h
              refine g_yes (Eq.trans (b := .bool (decide (t12_9 > 0))) rfl (congrArg V.bool hg21)) (g_v (.ref .sh 0 [] (.agg [(.int .i64 e_20.1), (.int .i64 e_20.2)])) (ev_idx (t := .sh) (lo := 0) (xs := g_1.2) rfl rfl E_e_20 rfl rfl) ?_)
              refine g_yes (Eq.trans (b := .bool (decide (t12_9 > 0))) rfl (congrArg V.bool hg21)) (g_v1 (t := 42) (u := (.ref .sh 0 [] (.agg [(.int .i64 e_20.1), (.int .i64 e_20.2)]))) (Enc.enc ([e_20.1, e_20.2] : List Int)) rfl rfl rfl ?_)
              refine g_yes (Eq.trans (b := .bool (decide (t12_9 > 0))) rfl (congrArg V.bool hg21)) (g_v1 (t := 4) (u := (.ref (.bx 4) 0 [] (.agg [(.int .i64 e_16.1), (.int .i64 e_16.2)]))) (encO (.bx 4) (.of ([e_16.1, e_16.2] : List Int))) h4 rfl rfl ?_)
              obtain ⟨r_21, E_r_21, h⟩ := bind_some h
              refine g_yes (Eq.trans (b := .bool (decide (t12_9 > 0))) rfl (congrArg V.bool hg21)) (g_call (m := 0) (al := false) (r := (Enc.enc (r_21 : Int))) [Enc.enc ([e_20.1, e_20.2] : (List Int)), Enc.enc ([e_16.1, e_16.2] : (List Int))] (ta_cons (v := (Enc.enc ([e_20.1, e_20.2] : List Int))) rfl rfl (Enc.erase_enc ([e_20.1, e_20.2] : (List Int))) (ta_cons (v := (encO (.bx 4) (.of ([e_16.1, e_16.2] : List Int)))) rfl rfl (erase_encO (o := .of [e_16.1, e_16.2])) ta_nil)) (H.c81 _ _ _ E_r_21) H.g81 rfl rfl rfl rfl ?_)
              refine g_yes (Eq.trans (b := .bool (decide (t12_9 > 0))) rfl (congrArg V.bool hg21)) (g_v1 (t := 45) (u := (.int .i64 r_21)) (.bool (decide (r_21 ≥ 0))) rfl rfl rfl ?_)
              refine g_yes (Eq.trans (b := .bool (decide (e_16.2 ≥ g_1.1))) rfl (congrArg V.bool hg18)) (g_v2 (t1 := 37) (t2 := 46) (u1 := (.bool true)) (u2 := (.bool (decide (r_21 ≥ 0)))) (.bool (decide (r_21 ≥ 0))) (Eq.trans (b := .bool (decide (t12_9 > 0))) rfl (congrArg V.bool hg21)) rfl rfl rfl ?_)
              refine g_v2 (t1 := 34) (t2 := 47) (u1 := (.bool false)) (u2 := (.bool (decide (r_21 ≥ 0)))) (.bool (decide (r_21 ≥ 0))) (Eq.trans (b := .bool (decide (e_16.2 ≥ g_1.1))) rfl (congrArg V.bool hg18)) rfl rfl rfl ?_
              refine g_end ?_
              refine e_end ?_
              refine renew [(1, (.ref (.bx 1) 0 [] (.agg [(.int .i64 g_1.1), (Enc.enc (g_1.2 : List (Int × Int)))]))), (2, (.bool false)), (10, (Enc.enc (g_1.2 : List (Int × Int)))), (11, (.int .i64 (g_1.2.length : Int))), (12, (.int .i64 t12_9)), (48, (.bool (decide (r_21 ≥ 0))))] ⟨h1, h2, h10, h11, h12, rfl⟩ ?_
              rintro s ⟨h1, h2, h10, h11, h12, h48⟩
              exact t_f53_j1 H g_1 t12_9 (i_IsGraph_l1 F g_1 k) ih (decide (r_21 ≥ 0)) _ ⟨h1, h2, h10, h11, h12, h48⟩ h
            · refine g_no (Eq.trans (b := .bool (decide (t12_9 > 0))) rfl (congrArg V.bool hg21)) ?_
              refine g_no (Eq.trans (b := .bool (decide (t12_9 > 0))) rfl (congrArg V.bool hg21)) ?_
              refine g_no (Eq.trans (b := .bool (decide (t12_9 > 0))) rfl (congrArg V.bool hg21)) ?_
              refine g_no (Eq.trans (b := .bool (decide (t12_9 > 0))) rfl (congrArg V.bool hg21)) ?_
              refine g_no (Eq.trans (b := .bool (decide (t12_9 > 0))) rfl (congrArg V.bool hg21)) ?_
              refine g_no (Eq.trans (b := .bool (decide (t12_9 > 0))) rfl (congrArg V.bool hg21)) ?_
              refine g_no (Eq.trans (b := .bool (decide (t12_9 > 0))) rfl (congrArg V.bool hg21)) ?_
              refine g_no (Eq.trans (b := .bool (decide (t12_9 > 0))) rfl (congrArg V.bool hg21)) ?_
              refine g_no (Eq.trans (b := .bool (decide (t12_9 > 0))) rfl (congrArg V.bool hg21)) ?_
              refine g_yes (Eq.trans (b := .bool (decide (e_16.2 ≥ g_1.1))) rfl (congrArg V.bool hg18)) (g_v2 (t1 := 37) (t2 := 46) (u1 := (.bool false)) (u2 := (.tup [])) (.bool false) (Eq.trans (b := .bool (decide (t12_9 > 0))) rfl (congrArg V.bool hg21)) rfl rfl rfl ?_)
              refine g_v2 (t1 := 34) (t2 := 47) (u1 := (.bool false)) (u2 := (.bool false)) (.bool false) (Eq.trans (b := .bool (decide (e_16.2 ≥ g_1.1))) rfl (congrArg V.bool hg18)) rfl rfl rfl ?_
              refine g_end ?_
              refine e_end ?_
              refine renew [(1, (.ref (.bx 1) 0 [] (.agg [(.int .i64 g_1.1), (Enc.enc (g_1.2 : List (Int × Int)))]))), (2, (.bool false)), (10, (Enc.enc (g_1.2 : List (Int × Int)))), (11, (.int .i64 (g_1.2.length : Int))), (12, (.int .i64 t12_9)), (48, (.bool false))] ⟨h1, h2, h10, h11, h12, rfl⟩ ?_
              rintro s ⟨h1, h2, h10, h11, h12, h48⟩
              exact t_f53_j1 H g_1 t12_9 (i_IsGraph_l1 F g_1 k) ih false _ ⟨h1, h2, h10, h11, h12, h48⟩ h
    · refine .exit ?_
      refine .esq ?_
      refine .elp ?_
      refine .ebk ?_
      refine .nsq ?_
      refine .seq ?_
      refine run_reg ?_
      refine e_end ?_
      refine g_v0 (.bool true) rfl rfl ?_
      refine g_end ?_
      refine e_end ?_
      refine renew [(2, (.bool true))] rfl ?_
      rintro s h2
      refine .nsq ?_
      refine .ret ?_
      have hr := Option.some.inj h
      subst hr
      exact rrA (res_tmp h2) rfl
def i_IsGraph (F : Nat) (g_1 : (Int × (List (Int × Int)))) : Option Bool :=
  (i_within F g_1.1 0 8).bind fun r_2 =>
  bif (!r_2) then
    some false
  else
    i_IsGraph_l1 F g_1 F 0
theorem t53 (H : H53 D σ F) (g_1 : (Int × (List (Int × Int)))) (s : Nat → V) (hs : Facts [(0, (.agg [(.int .i64 g_1.1), (Enc.enc (g_1.2 : List (Int × Int)))]))] s) (h : i_IsGraph F g_1 = some r) : Run D σ (R53 r) (.run A53 []) s := by
  unfold i_IsGraph at h
  have h0 := hs
  refine .seq ?_
  refine run_reg ?_
  refine e_clr ?_
  refine e_end ?_
  refine g_box (.agg [(.int .i64 g_1.1), (Enc.enc (g_1.2 : List (Int × Int)))]) (rd_of (keep_clear (s := s) (pk := [1]) h0 rfl (map_agg (maps_cons rfl (maps_cons (Enc.map_enc _ (g_1.2 : List (Int × Int))) maps_nil)))) rfl) (gone_clear (s := s) (pk := [1]) (t := 1) rfl) rfl ?_
  refine g_v0 (.bool false) rfl rfl ?_
  refine g_end ?_
  refine e_end ?_
  refine renew [(1, (.ref (.bx 1) 0 [] (.agg [(.int .i64 g_1.1), (Enc.enc (g_1.2 : List (Int × Int)))]))), (2, (.bool false))] ⟨rfl, rfl⟩ ?_
  rintro s ⟨h1, h2⟩
  refine .nsq ?_
  refine .seq ?_
  refine .seq ?_
  refine run_reg ?_
  refine e_end ?_
  refine g_v1 (t := 1) (u := (.ref (.bx 1) 0 [] (.agg [(.int .i64 g_1.1), (Enc.enc (g_1.2 : List (Int × Int)))]))) (.ref (.bx 1) 0 [0] (.int .i64 g_1.1)) h1 rfl rfl ?_
  refine g_v1 (t := 5) (u := (.ref (.bx 1) 0 [0] (.int .i64 g_1.1))) (.int .i64 g_1.1) rfl rfl rfl ?_
  obtain ⟨r_2, E_r_2, h⟩ := bind_some h
  refine g_call (m := 0) (al := false) (r := (Enc.enc (r_2 : Bool))) [Enc.enc (g_1.1 : Int), Enc.enc (0 : Int), Enc.enc (8 : Int)] (ta_cons (v := (.int .i64 g_1.1)) rfl rfl rfl (ta_cons (v := (.int .i64 0)) rfl rfl rfl (ta_cons (v := (.int .i64 8)) rfl rfl rfl ta_nil))) (H.c62 _ _ _ _ E_r_2) H.g62 rfl rfl rfl rfl ?_
  refine g_v1 (t := 7) (u := (.bool r_2)) (.bool (!r_2)) rfl rfl rfl ?_
  refine g_end ?_
  refine e_end ?_
  refine renew [(1, (.ref (.bx 1) 0 [] (.agg [(.int .i64 g_1.1), (Enc.enc (g_1.2 : List (Int × Int)))]))), (2, (.bool false)), (8, (.bool (!r_2)))] ⟨h1, h2, rfl⟩ ?_
  rintro s ⟨h1, h2, h8⟩
  refine .nsq ?_
  refine run_cond (t := (!r_2)) h8 h (fun h => ?_) (fun h => ?_)
  · refine .seq ?_
    refine run_reg ?_
    refine e_end ?_
    refine g_v0 (.bool false) rfl rfl ?_
    refine g_end ?_
    refine e_end ?_
    refine renew [(1, (.ref (.bx 1) 0 [] (.agg [(.int .i64 g_1.1), (Enc.enc (g_1.2 : List (Int × Int)))]))), (2, (.bool false))] ⟨h1, rfl⟩ ?_
    rintro s ⟨h1, h2⟩
    refine .nsq ?_
    refine .ret ?_
    have hr := Option.some.inj h
    subst hr
    exact rrA (res_tmp h2) rfl
  · refine .skip ?_
    refine .nsq ?_
    refine .seq ?_
    refine .seq ?_
    refine run_reg ?_
    refine e_end ?_
    refine g_v1 (t := 1) (u := (.ref (.bx 1) 0 [] (.agg [(.int .i64 g_1.1), (Enc.enc (g_1.2 : List (Int × Int)))]))) (.ref (.bx 1) 0 [1] (Enc.enc (g_1.2 : List (Int × Int)))) h1 rfl rfl ?_
    refine g_v1 (t := 9) (u := (.ref (.bx 1) 0 [1] (Enc.enc (g_1.2 : List (Int × Int))))) (Enc.enc (g_1.2 : List (Int × Int))) rfl rfl rfl ?_
    refine g_v (.int .i64 (g_1.2.length : Int)) (ev_len (xs := g_1.2) rfl) ?_
    refine g_v0 (.int .i64 0) rfl rfl ?_
    refine g_end ?_
    refine e_end ?_
    refine renew [(1, (.ref (.bx 1) 0 [] (.agg [(.int .i64 g_1.1), (Enc.enc (g_1.2 : List (Int × Int)))]))), (2, (.bool false)), (10, (Enc.enc (g_1.2 : List (Int × Int)))), (11, (.int .i64 (g_1.2.length : Int))), (12, (.int .i64 0))] ⟨h1, h2, rfl, rfl, rfl⟩ ?_
    rintro s ⟨h1, h2, h10, h11, h12⟩
    refine .nsq ?_
    refine .block ?_
    refine .loop ?_
    exact t_f53_l1 H g_1 F 0 _ ⟨h1, h2, h10, h11, h12⟩ h
end
def e53 (F : Nat) : Ent := ⟨53, da (fun (x : ((Int × (List (Int × Int))) × Unit)) => i_IsGraph F x.1) (fun (r : Bool) => (Enc.enc (r : Bool))), 0, false, selF []⟩
theorem p53 {F : Nat} {x0 : (Int × (List (Int × Int)))} {r : Bool} (h : i_IsGraph F x0 = some r) : (e53 F).den [Enc.enc x0] = some (Enc.enc (r : Bool)) := da_put (f := fun (x : ((Int × (List (Int × Int))) × Unit)) => i_IsGraph F x.1) (t := fun (r : Bool) => (Enc.enc (r : Bool))) (x0, ()) h
theorem o53 {D : Den} {σ : Sig} {F : Nat} (hF : Fits2 Try.prog D σ) (H : H53 D σ F) : (e53 F).Ok Try.prog := by
  refine ⟨fun args r h => ?_, ⟨Try.f53, Try.func53, rfl, rfl⟩⟩
  obtain ⟨⟨x0, _⟩, y, rfl, hy, rfl⟩ := da_open h
  exact contract_run hF (by kernel_rfl) Try.func53 rfl c53 (show 1 ≤ Try.f53.ntmps by decide) (t53 H x0 _ rfl hy)
/- loop.example/g01109/impl.netOf -/
def A67_5 : AC := (AC.reg [] [(I.mk (some 28) none false (X.v (A.fld (O.t 3) 0 0))), (I.mk (some 29) none false (X.v (A.load Sh.p (O.t 28)))), (I.mk (some 30) none false (X.v (A.idxA (O.t 5) (O.k (V.int IntKind.i64 (Int.ofNat 1))) 2 1))), (I.mk (some 31) none false (X.v (A.load Sh.s (O.t 30)))), (I.mk (some 32) none false (X.v (A.idx (O.t 29) (O.t 31) 1))), (I.mk (some 33) none false (X.v (A.load Sh.s (O.t 32)))), (I.mk (some 34) none false (X.v (A.idxA (O.t 5) (O.k (V.int IntKind.i64 (Int.ofNat 0))) 2 1))), (I.mk (some 35) none false (X.v (A.load Sh.s (O.t 34)))), (I.mk (some 36) none false (X.v (A.bin BinOp.shl (O.k (V.int IntKind.i64 (Int.ofNat 1))) (O.t 35)))), (I.mk (some 37) none false (X.v (A.bin BinOp.or (O.t 33) (O.t 36)))), (I.mk (some 38) none false (X.v (A.idx (O.t 29) (O.t 31) 1))), (I.mk none none false (X.store Sh.s (O.t 38) (O.t 37)))] [])
def A67_4 : AC := (AC.seq (AC.reg [] [(I.mk (some 17) none false (X.v (A.fld (O.t 3) 0 0))), (I.mk (some 18) none false (X.v (A.load Sh.p (O.t 17)))), (I.mk (some 19) none false (X.v (A.idxA (O.t 5) (O.k (V.int IntKind.i64 (Int.ofNat 0))) 2 1))), (I.mk (some 20) none false (X.v (A.load Sh.s (O.t 19)))), (I.mk (some 21) none false (X.v (A.idx (O.t 18) (O.t 20) 1))), (I.mk (some 22) none false (X.v (A.load Sh.s (O.t 21)))), (I.mk (some 23) none false (X.v (A.idxA (O.t 5) (O.k (V.int IntKind.i64 (Int.ofNat 1))) 2 1))), (I.mk (some 24) none false (X.v (A.load Sh.s (O.t 23)))), (I.mk (some 25) none false (X.v (A.bin BinOp.shl (O.k (V.int IntKind.i64 (Int.ofNat 1))) (O.t 24)))), (I.mk (some 26) none false (X.v (A.bin BinOp.or (O.t 22) (O.t 25)))), (I.mk (some 27) none false (X.v (A.idx (O.t 18) (O.t 20) 1))), (I.mk none none false (X.store Sh.s (O.t 27) (O.t 26)))] []) A67_5)
def A67_6 : AC := (AC.reg [] [(I.mk (some 39) none false (X.v (A.bin BinOp.add (O.t 13) (O.k (V.int IntKind.i64 (Int.ofNat 1)))))), (I.mk (some 13) none false (X.v (A.mov (O.t 39))))] [])
def A67_3 : AC := (AC.seq (AC.block 1 (AC.seq (AC.reg [.clr [5]] [(I.mk (some 15) none false (X.v (A.idx (O.t 11) (O.t 13) 2))), (I.mk (some 16) none false (X.v (A.load (Sh.ag [Sh.s, Sh.s]) (O.t 15)))), (I.mk (some 5) none false (X.alloc (V.agg [(V.int IntKind.i64 (Int.ofNat 0)), (V.int IntKind.i64 (Int.ofNat 0))]))), (I.mk none none false (X.store (Sh.ag [Sh.s, Sh.s]) (O.t 5) (O.t 16)))] []) A67_4)) A67_6)
def A67_2 : AC := (AC.seq (AC.cond (O.t 14) AC.skip (AC.exit 0)) A67_3)
def A67_1 : AC := (AC.seq (AC.reg [] [(I.mk (some 14) none false (X.v (A.bin BinOp.lss (O.t 13) (O.t 12))))] []) A67_2)
def A67_7 : AC := (AC.seq (AC.reg [] [(I.mk (some 40) none false (X.v (A.load (Sh.ag [Sh.p]) (O.t 3)))), (I.mk none none false (X.store (Sh.ag [Sh.p]) (O.t 2) (O.t 40)))] []) AC.ret)
def A67_10 : AC := (AC.block 0 (AC.loop A67_1))
def A67_9 : AC := (AC.seq (AC.seq (AC.reg [] [(I.mk (some 10) none false (X.v (A.fld (O.t 1) 1 1))), (I.mk (some 11) none false (X.v (A.load Sh.p (O.t 10)))), (I.mk (some 12) none false (X.v (A.len (O.t 11)))), (I.mk (some 13) none false (X.v (A.mov (O.k (V.int IntKind.i64 (Int.ofNat 0))))))] []) A67_10) A67_7)
def A67_8 : AC := (AC.seq (AC.reg [.clr [8, 3]] [(I.mk (some 6) none false (X.v (A.fld (O.t 1) 0 0))), (I.mk (some 7) none false (X.v (A.load Sh.s (O.t 6)))), (I.mk (some 8) none false (X.mk (O.t 7) (V.int IntKind.i64 (Int.ofNat 0)))), (I.mk (some 9) none false (X.v (A.bld (V.agg [(V.sl Tok.nl Sh.s 0 [])]) [(0, 0, (O.t 8))]))), (I.mk (some 3) none false (X.alloc (V.agg [(V.sl Tok.nl Sh.s 0 [])]))), (I.mk none none false (X.store (Sh.ag [Sh.p]) (O.t 3) (O.t 9)))] []) A67_9)
def A67 : AC := (AC.seq (AC.reg [.clr [1, 2]] [(I.mk (some 1) none false (X.box (O.t 0))), (I.mk (some 2) none false (X.alloc (V.agg [(V.sl Tok.nl Sh.s 0 [])])))] []) A67_8)
def an67 : List An := [{ id := 0, pre := [.clr [1, 2]], ep := [], lin := [], sp := [] }, { id := 1, pre := [.clr [8, 3]], ep := [], lin := [], sp := [] }, { id := 4, pre := [.clr [5]], ep := [], lin := [], sp := [] }]
theorem c67 : cC Try.prog Try.f67.ntmps an67 (Try.f67.body.getD .skip) = some A67 := by kernel_rfl
structure H67 (D : Den) (σ : Sig) (F : Nat) : Prop where
  mk ::
abbrev R67 (r : (S1 (List Int))) : (Nat → V) → Prop := RR Try.prog [.cell 2 95] 0 false (Enc.enc (r : (S1 (List Int))))
section
variable {D : Den} {σ : Sig} {F : Nat} {r : (S1 (List Int))}
def i_netOf_l1 (F : Nat) (g_1 : (Int × (List (Int × Int))))  : Nat → (List Int) → Int → Option (S1 (List Int))
  | 0, _, _ => none
  | k + 1, w_10, t13_11 =>
    bif decide (t13_11 < (g_1.2.length : Int)) then
      (idx g_1.2 t13_11).bind fun e_19 =>
      (idx w_10 e_19.1).bind fun e_20 =>
      (shlI .i64 1 e_19.2).bind fun q_21 =>
      (idx w_10 e_19.1).bind fun e_22 =>
      (idx (w_10.set e_19.1.toNat (ior .i64 e_20 q_21)) e_19.2).bind fun e_23 =>
      (shlI .i64 1 e_19.1).bind fun q_24 =>
      (idx (w_10.set e_19.1.toNat (ior .i64 e_20 q_21)) e_19.2).bind fun e_25 =>
      (i_netOf_l1 F g_1 k) ((w_10.set e_19.1.toNat (ior .i64 e_20 q_21)).set e_19.2.toNat (ior .i64 e_23 q_24)) (w64 (t13_11 + 1))
    else
      some (S1.mk w_10)
theorem t_f67_l1 (H : H67 D σ F) (g_1 : (Int × (List (Int × Int))))  : ∀ (k : Nat) (w_10 : (List Int)) (t13_11 : Int) (s : Nat → V), Facts [(2, (.ref (.bx 2) 0 [] (.agg [(.sl .nl (Enc.shp Int) 0 [])]))), (3, (.ref (.bx 3) 0 [] (.agg [(encO (.at 8 []) (.of (w_10 : List Int)))]))), (11, (Enc.enc (g_1.2 : List (Int × Int)))), (12, (.int .i64 (g_1.2.length : Int))), (13, (.int .i64 t13_11))] s → i_netOf_l1 F g_1 k w_10 t13_11 = some r → Run D σ (R67 r) (.run A67_1 [.lp A67_1, .bk 0, .sq A67_7]) s := by
  intro k
  induction k with
  | zero => intro w_10 t13_11 s _ h; exact nomatch (h : (none : Option _) = some r)
  | succ k ih =>
    intro w_10 t13_11 s hs h
    rw [i_netOf_l1] at h
    obtain ⟨h2, h3, h11, h12, h13⟩ := hs
    refine .seq ?_
    refine run_reg ?_
    refine e_end ?_
    refine g_v2 (t1 := 13) (t2 := 12) (u1 := (.int .i64 t13_11)) (u2 := (.int .i64 (g_1.2.length : Int))) (.bool (decide (t13_11 < (g_1.2.length : Int)))) h13 h12 rfl rfl ?_
    refine g_end ?_
    refine e_end ?_
    refine renew [(2, (.ref (.bx 2) 0 [] (.agg [(.sl .nl (Enc.shp Int) 0 [])]))), (3, (.ref (.bx 3) 0 [] (.agg [(encO (.at 8 []) (.of (w_10 : List Int)))]))), (11, (Enc.enc (g_1.2 : List (Int × Int)))), (12, (.int .i64 (g_1.2.length : Int))), (13, (.int .i64 t13_11)), (14, (.bool (decide (t13_11 < (g_1.2.length : Int)))))] ⟨h2, h3, h11, h12, h13, rfl⟩ ?_
    rintro s ⟨h2, h3, h11, h12, h13, h14⟩
    refine .nsq ?_
    refine .seq ?_
    refine run_cond (t := decide (t13_11 < (g_1.2.length : Int))) h14 h (fun h => ?_) (fun h => ?_)
    · refine .skip ?_
      refine .nsq ?_
      refine .seq ?_
      refine .block ?_
      refine .seq ?_
      refine run_reg ?_
      refine e_clr ?_
      refine e_end ?_
      obtain ⟨e_19, E_e_19, h⟩ := bind_some h
      refine g_v (.ref .sh 0 [] (.agg [(.int .i64 e_19.1), (.int .i64 e_19.2)])) (ev_idx (t := .sh) (lo := 0) (xs := g_1.2) (keep_clear (s := s) (pk := [5]) h11 rfl (Enc.map_enc _ (g_1.2 : List (Int × Int)))) (keep_clear (s := s) (pk := [5]) h13 rfl rfl) E_e_19 rfl rfl) ?_
      refine g_v1 (t := 15) (u := (.ref .sh 0 [] (.agg [(.int .i64 e_19.1), (.int .i64 e_19.2)]))) (.agg [(.int .i64 e_19.1), (.int .i64 e_19.2)]) rfl rfl rfl ?_
      refine g_alloc (gone_clear (s := s) (pk := [5]) (t := 5) rfl) ?_
      refine g_store (.agg [(.int .i64 e_19.1), (.int .i64 e_19.2)]) (rd_of rfl rfl) (rd_of rfl rfl) (by refine ⟨by decide, by decide, rfl, rfl, rfl, ?_⟩; first | rfl | simp [V.toks, V.tokss, Enc.toks_enc]) ?_
      refine g_end ?_
      refine e_end ?_
      refine renew [(2, (.ref (.bx 2) 0 [] (.agg [(.sl .nl (Enc.shp Int) 0 [])]))), (3, (.ref (.bx 3) 0 [] (.agg [(encO (.at 8 []) (.of (w_10 : List Int)))]))), (5, (.ref (.bx 5) 0 [] (.agg [(.int .i64 e_19.1), (.int .i64 e_19.2)]))), (11, (Enc.enc (g_1.2 : List (Int × Int)))), (12, (.int .i64 (g_1.2.length : Int))), (13, (.int .i64 t13_11))] ⟨(keep_mut (keep_clear (s := s) (pk := [5]) h2 rfl (map_bx rfl (map_agg (maps_cons rfl maps_nil)))) (mut_ref_ne rfl rfl (mut_agg (muts_cons rfl rfl)))), (keep_mut (keep_clear (s := s) (pk := [5]) h3 rfl (map_bx rfl (map_agg (maps_cons (map_encO (r := 8) (p := []) rfl rfl) maps_nil)))) (mut_ref_ne rfl rfl (mut_agg (muts_cons (mut_own_ne rfl rfl) rfl)))), (keep_mut rfl rfl), (keep_mut (keep_clear (s := s) (pk := [5]) h11 rfl (Enc.map_enc _ (g_1.2 : List (Int × Int)))) (Enc.mut_enc _ _ _ _ (g_1.2 : List (Int × Int)))), (keep_mut (keep_clear (s := s) (pk := [5]) h12 rfl rfl) rfl), (keep_mut (keep_clear (s := s) (pk := [5]) h13 rfl rfl) rfl)⟩ ?_
      rintro s ⟨h2, h3, h5, h11, h12, h13⟩
      refine .nsq ?_
      refine .seq ?_
      refine run_reg ?_
      refine e_end ?_
      refine g_v1 (t := 3) (u := (.ref (.bx 3) 0 [] (.agg [(encO (.at 8 []) (.of (w_10 : List Int)))]))) (.ref (.bx 3) 0 [0] (encO (.at 8 []) (.of (w_10 : List Int)))) h3 rfl rfl ?_
      refine g_v1 (t := 17) (u := (.ref (.bx 3) 0 [0] (encO (.at 8 []) (.of (w_10 : List Int))))) (encO (.at 8 []) (.of (w_10 : List Int))) rfl rfl rfl ?_
      refine g_v1 (t := 5) (u := (.ref (.bx 5) 0 [] (.agg [(.int .i64 e_19.1), (.int .i64 e_19.2)]))) (.ref (.bx 5) 0 [0] (.int .i64 e_19.1)) h5 rfl rfl ?_
      refine g_v1 (t := 19) (u := (.ref (.bx 5) 0 [0] (.int .i64 e_19.1))) (.int .i64 e_19.1) rfl rfl rfl ?_
      obtain ⟨e_20, E_e_20, h⟩ := bind_some h
      refine g_v (.ref (.at 8 []) e_19.1.toNat [] (.int .i64 e_20)) (ev_idxO (o := (.of w_10)) rfl rfl E_e_20 rfl) ?_
      refine g_v1 (t := 21) (u := (.ref (.at 8 []) e_19.1.toNat [] (.int .i64 e_20))) (.int .i64 e_20) rfl rfl rfl ?_
      refine g_v1 (t := 5) (u := (.ref (.bx 5) 0 [] (.agg [(.int .i64 e_19.1), (.int .i64 e_19.2)]))) (.ref (.bx 5) 0 [1] (.int .i64 e_19.2)) h5 rfl rfl ?_
      refine g_v1 (t := 23) (u := (.ref (.bx 5) 0 [1] (.int .i64 e_19.2))) (.int .i64 e_19.2) rfl rfl rfl ?_
      obtain ⟨q_21, E_q_21, h⟩ := bind_some h
      refine g_v (.int .i64 q_21) (ev_shl rfl rfl E_q_21) ?_
      refine g_v2 (t1 := 22) (t2 := 25) (u1 := (.int .i64 e_20)) (u2 := (.int .i64 q_21)) (.int .i64 (ior .i64 e_20 q_21)) rfl rfl rfl rfl ?_
      obtain ⟨e_22, E_e_22, h⟩ := bind_some h
      refine g_v (.ref (.at 8 []) e_19.1.toNat [] (.int .i64 e_22)) (ev_idxO (o := (.of w_10)) rfl rfl E_e_22 rfl) ?_
      refine g_store (.int .i64 (ior .i64 e_20 q_21)) (rd_of rfl rfl) (rd_of rfl rfl) (by refine ⟨by decide, by decide, rfl, rfl, rfl, ?_⟩; first | rfl | simp [V.toks, V.tokss, Enc.toks_enc]) ?_
      refine g_end ?_
      refine e_end ?_
      refine renew [(2, (.ref (.bx 2) 0 [] (.agg [(.sl .nl (Enc.shp Int) 0 [])]))), (3, (.ref (.bx 3) 0 [] (.agg [(encO (.at 8 []) (.of (w_10.set e_19.1.toNat (ior .i64 e_20 q_21) : List Int)))]))), (5, (.ref (.bx 5) 0 [] (.agg [(.int .i64 e_19.1), (.int .i64 e_19.2)]))), (11, (Enc.enc (g_1.2 : List (Int × Int)))), (12, (.int .i64 (g_1.2.length : Int))), (13, (.int .i64 t13_11))] ⟨(keep_mut h2 (mut_ref_ne rfl rfl (mut_agg (muts_cons rfl rfl)))), (keep_mut h3 (mut_ref_ne rfl rfl (mut_agg (muts_cons mut_own rfl)))), (keep_mut h5 rfl), (keep_mut h11 (Enc.mut_enc _ _ _ _ (g_1.2 : List (Int × Int)))), (keep_mut h12 rfl), (keep_mut h13 rfl)⟩ ?_
      rintro s ⟨h2, h3, h5, h11, h12, h13⟩
      refine .nsq ?_
      refine run_reg ?_
      refine e_end ?_
      refine g_v1 (t := 3) (u := (.ref (.bx 3) 0 [] (.agg [(encO (.at 8 []) (.of (w_10.set e_19.1.toNat (ior .i64 e_20 q_21) : List Int)))]))) (.ref (.bx 3) 0 [0] (encO (.at 8 []) (.of (w_10.set e_19.1.toNat (ior .i64 e_20 q_21) : List Int)))) h3 rfl rfl ?_
      refine g_v1 (t := 28) (u := (.ref (.bx 3) 0 [0] (encO (.at 8 []) (.of (w_10.set e_19.1.toNat (ior .i64 e_20 q_21) : List Int))))) (encO (.at 8 []) (.of (w_10.set e_19.1.toNat (ior .i64 e_20 q_21) : List Int))) rfl rfl rfl ?_
      refine g_v1 (t := 5) (u := (.ref (.bx 5) 0 [] (.agg [(.int .i64 e_19.1), (.int .i64 e_19.2)]))) (.ref (.bx 5) 0 [1] (.int .i64 e_19.2)) h5 rfl rfl ?_
      refine g_v1 (t := 30) (u := (.ref (.bx 5) 0 [1] (.int .i64 e_19.2))) (.int .i64 e_19.2) rfl rfl rfl ?_
      obtain ⟨e_23, E_e_23, h⟩ := bind_some h
      refine g_v (.ref (.at 8 []) e_19.2.toNat [] (.int .i64 e_23)) (ev_idxO (o := (.of (w_10.set e_19.1.toNat (ior .i64 e_20 q_21)))) rfl rfl E_e_23 rfl) ?_
      refine g_v1 (t := 32) (u := (.ref (.at 8 []) e_19.2.toNat [] (.int .i64 e_23))) (.int .i64 e_23) rfl rfl rfl ?_
      refine g_v1 (t := 5) (u := (.ref (.bx 5) 0 [] (.agg [(.int .i64 e_19.1), (.int .i64 e_19.2)]))) (.ref (.bx 5) 0 [0] (.int .i64 e_19.1)) h5 rfl rfl ?_
      refine g_v1 (t := 34) (u := (.ref (.bx 5) 0 [0] (.int .i64 e_19.1))) (.int .i64 e_19.1) rfl rfl rfl ?_
      obtain ⟨q_24, E_q_24, h⟩ := bind_some h
      refine g_v (.int .i64 q_24) (ev_shl rfl rfl E_q_24) ?_
      refine g_v2 (t1 := 33) (t2 := 36) (u1 := (.int .i64 e_23)) (u2 := (.int .i64 q_24)) (.int .i64 (ior .i64 e_23 q_24)) rfl rfl rfl rfl ?_
      obtain ⟨e_25, E_e_25, h⟩ := bind_some h
      refine g_v (.ref (.at 8 []) e_19.2.toNat [] (.int .i64 e_25)) (ev_idxO (o := (.of (w_10.set e_19.1.toNat (ior .i64 e_20 q_21)))) rfl rfl E_e_25 rfl) ?_
      refine g_store (.int .i64 (ior .i64 e_23 q_24)) (rd_of rfl rfl) (rd_of rfl rfl) (by refine ⟨by decide, by decide, rfl, rfl, rfl, ?_⟩; first | rfl | simp [V.toks, V.tokss, Enc.toks_enc]) ?_
      refine g_end ?_
      refine e_end ?_
      refine renew [(2, (.ref (.bx 2) 0 [] (.agg [(.sl .nl (Enc.shp Int) 0 [])]))), (3, (.ref (.bx 3) 0 [] (.agg [(encO (.at 8 []) (.of ((w_10.set e_19.1.toNat (ior .i64 e_20 q_21)).set e_19.2.toNat (ior .i64 e_23 q_24) : List Int)))]))), (11, (Enc.enc (g_1.2 : List (Int × Int)))), (12, (.int .i64 (g_1.2.length : Int))), (13, (.int .i64 t13_11))] ⟨(keep_mut h2 (mut_ref_ne rfl rfl (mut_agg (muts_cons rfl rfl)))), (keep_mut h3 (mut_ref_ne rfl rfl (mut_agg (muts_cons mut_own rfl)))), (keep_mut h11 (Enc.mut_enc _ _ _ _ (g_1.2 : List (Int × Int)))), (keep_mut h12 rfl), (keep_mut h13 rfl)⟩ ?_
      rintro s ⟨h2, h3, h11, h12, h13⟩
      refine .nbk ?_
      refine .nsq ?_
      refine run_reg ?_
      refine e_end ?_
      refine g_v1 (t := 13) (u := (.int .i64 t13_11)) (.int .i64 (w64 (t13_11 + 1))) h13 rfl rfl ?_
      refine g_v1 (t := 39) (u := (.int .i64 (w64 (t13_11 + 1)))) (.int .i64 (w64 (t13_11 + 1))) rfl rfl rfl ?_
      refine g_end ?_
      refine e_end ?_
      refine renew [(2, (.ref (.bx 2) 0 [] (.agg [(.sl .nl (Enc.shp Int) 0 [])]))), (3, (.ref (.bx 3) 0 [] (.agg [(encO (.at 8 []) (.of ((w_10.set e_19.1.toNat (ior .i64 e_20 q_21)).set e_19.2.toNat (ior .i64 e_23 q_24) : List Int)))]))), (11, (Enc.enc (g_1.2 : List (Int × Int)))), (12, (.int .i64 (g_1.2.length : Int))), (13, (.int .i64 (w64 (t13_11 + 1))))] ⟨h2, h3, h11, h12, rfl⟩ ?_
      rintro s ⟨h2, h3, h11, h12, h13⟩
      refine .nlp ?_
      exact ih ((w_10.set e_19.1.toNat (ior .i64 e_20 q_21)).set e_19.2.toNat (ior .i64 e_23 q_24)) (w64 (t13_11 + 1)) _ ⟨h2, h3, h11, h12, h13⟩ h
    · refine .exit ?_
      refine .esq ?_
      refine .elp ?_
      refine .ebk ?_
      refine .nsq ?_
      refine .seq ?_
      refine run_reg ?_
      refine e_end ?_
      refine g_v1 (t := 3) (u := (.ref (.bx 3) 0 [] (.agg [(encO (.at 8 []) (.of (w_10 : List Int)))]))) (.agg [(encO (.at 8 []) (.of (w_10 : List Int)))]) h3 rfl rfl ?_
      refine g_store (.agg [(encO (.at 8 []) (.of (w_10 : List Int)))]) (rd_of h2 rfl) (rd_of rfl rfl) (by refine ⟨by decide, by decide, rfl, rfl, rfl, ?_⟩; first | rfl | simp [V.toks, V.tokss, Enc.toks_enc]) ?_
      refine g_end ?_
      refine e_end ?_
      refine renew [(2, (.ref (.bx 2) 0 [] (.agg [(encO (.at 8 []) (.of (w_10 : List Int)))])))] (keep_mut h2 rfl) ?_
      rintro s h2
      refine .nsq ?_
      refine .ret ?_
      have hr := Option.some.inj h
      subst hr
      exact rrA (res_cell h2 (by kernel_rfl)) (fin_retF (fin_agg (fins_cons (fin_own (o := .of w_10)) fins_nil)) (mine_agg (mines_cons (mine_own rfl) mines_nil)))
def i_netOf (F : Nat) (g_1 : (Int × (List (Int × Int)))) : Option (S1 (List Int)) :=
  (mkN g_1.1 0).bind fun mk_2 =>
  i_netOf_l1 F g_1 F mk_2 0
theorem t67 (H : H67 D σ F) (g_1 : (Int × (List (Int × Int)))) (s : Nat → V) (hs : Facts [(0, (.agg [(.int .i64 g_1.1), (Enc.enc (g_1.2 : List (Int × Int)))]))] s) (h : i_netOf F g_1 = some r) : Run D σ (R67 r) (.run A67 []) s := by
  unfold i_netOf at h
  have h0 := hs
  refine .seq ?_
  refine run_reg ?_
  refine e_clr ?_
  refine e_end ?_
  refine g_box (.agg [(.int .i64 g_1.1), (Enc.enc (g_1.2 : List (Int × Int)))]) (rd_of (keep_clear (s := s) (pk := [1, 2]) h0 rfl (map_agg (maps_cons rfl (maps_cons (Enc.map_enc _ (g_1.2 : List (Int × Int))) maps_nil)))) rfl) (gone_clear (s := s) (pk := [1, 2]) (t := 1) rfl) rfl ?_
  refine g_alloc (gone_clear (s := s) (pk := [1, 2]) (t := 2) rfl) ?_
  refine g_end ?_
  refine e_end ?_
  refine renew [(1, (.ref (.bx 1) 0 [] (.agg [(.int .i64 g_1.1), (Enc.enc (g_1.2 : List (Int × Int)))]))), (2, (.ref (.bx 2) 0 [] (.agg [(.sl .nl (Enc.shp Int) 0 [])])))] ⟨rfl, rfl⟩ ?_
  rintro s ⟨h1, h2⟩
  refine .nsq ?_
  refine .seq ?_
  refine run_reg ?_
  refine e_clr ?_
  refine e_end ?_
  refine g_v1 (t := 1) (u := (.ref (.bx 1) 0 [] (.agg [(.int .i64 g_1.1), (Enc.enc (g_1.2 : List (Int × Int)))]))) (.ref (.bx 1) 0 [0] (.int .i64 g_1.1)) (keep_clear (s := s) (pk := [8, 3]) h1 rfl (map_bx rfl (map_agg (maps_cons rfl (maps_cons (Enc.map_enc _ (g_1.2 : List (Int × Int))) maps_nil))))) rfl rfl ?_
  refine g_v1 (t := 6) (u := (.ref (.bx 1) 0 [0] (.int .i64 g_1.1))) (.int .i64 g_1.1) rfl rfl rfl ?_
  obtain ⟨mk_2, E_mk_2, h⟩ := bind_some h
  refine g_mk (0 : Int) rfl rfl (gone_clear (s := s) (pk := [8, 3]) (t := 8) rfl) E_mk_2 ?_
  refine g_v1 (t := 8) (u := (encO (.at 8 []) (.of (mk_2 : List Int)))) (.agg [(encO (.at 8 []) (.of (mk_2 : List Int)))]) rfl rfl rfl ?_
  refine g_alloc (gone_clear (s := s) (pk := [8, 3]) (t := 3) rfl) ?_
  refine g_store (.agg [(encO (.at 8 []) (.of (mk_2 : List Int)))]) (rd_of rfl rfl) (rd_of rfl rfl) (by refine ⟨by decide, by decide, rfl, rfl, rfl, ?_⟩; first | rfl | simp [V.toks, V.tokss, Enc.toks_enc]) ?_
  refine g_end ?_
  refine e_end ?_
  refine renew [(1, (.ref (.bx 1) 0 [] (.agg [(.int .i64 g_1.1), (Enc.enc (g_1.2 : List (Int × Int)))]))), (2, (.ref (.bx 2) 0 [] (.agg [(.sl .nl (Enc.shp Int) 0 [])]))), (3, (.ref (.bx 3) 0 [] (.agg [(encO (.at 8 []) (.of (mk_2 : List Int)))])))] ⟨(keep_mut (keep_clear (s := s) (pk := [8, 3]) h1 rfl (map_bx rfl (map_agg (maps_cons rfl (maps_cons (Enc.map_enc _ (g_1.2 : List (Int × Int))) maps_nil))))) (mut_ref_ne rfl rfl (mut_agg (muts_cons rfl (muts_cons (Enc.mut_enc _ _ _ _ (g_1.2 : List (Int × Int))) rfl))))), (keep_mut (keep_clear (s := s) (pk := [8, 3]) h2 rfl (map_bx rfl (map_agg (maps_cons rfl maps_nil)))) (mut_ref_ne rfl rfl (mut_agg (muts_cons rfl rfl)))), (keep_mut rfl rfl)⟩ ?_
  rintro s ⟨h1, h2, h3⟩
  refine .nsq ?_
  refine .seq ?_
  refine .seq ?_
  refine run_reg ?_
  refine e_end ?_
  refine g_v1 (t := 1) (u := (.ref (.bx 1) 0 [] (.agg [(.int .i64 g_1.1), (Enc.enc (g_1.2 : List (Int × Int)))]))) (.ref (.bx 1) 0 [1] (Enc.enc (g_1.2 : List (Int × Int)))) h1 rfl rfl ?_
  refine g_v1 (t := 10) (u := (.ref (.bx 1) 0 [1] (Enc.enc (g_1.2 : List (Int × Int))))) (Enc.enc (g_1.2 : List (Int × Int))) rfl rfl rfl ?_
  refine g_v (.int .i64 (g_1.2.length : Int)) (ev_len (xs := g_1.2) rfl) ?_
  refine g_v0 (.int .i64 0) rfl rfl ?_
  refine g_end ?_
  refine e_end ?_
  refine renew [(2, (.ref (.bx 2) 0 [] (.agg [(.sl .nl (Enc.shp Int) 0 [])]))), (3, (.ref (.bx 3) 0 [] (.agg [(encO (.at 8 []) (.of (mk_2 : List Int)))]))), (11, (Enc.enc (g_1.2 : List (Int × Int)))), (12, (.int .i64 (g_1.2.length : Int))), (13, (.int .i64 0))] ⟨h2, h3, rfl, rfl, rfl⟩ ?_
  rintro s ⟨h2, h3, h11, h12, h13⟩
  refine .nsq ?_
  refine .block ?_
  refine .loop ?_
  exact t_f67_l1 H g_1 F mk_2 0 _ ⟨h2, h3, h11, h12, h13⟩ h
end
def e67 (F : Nat) : Ent := ⟨67, da (fun (x : ((Int × (List (Int × Int))) × Unit)) => i_netOf F x.1) (fun (r : (S1 (List Int))) => (Enc.enc (r : (S1 (List Int))))), 0, false, selF []⟩
theorem p67 {F : Nat} {x0 : (Int × (List (Int × Int)))} {r : (S1 (List Int))} (h : i_netOf F x0 = some r) : (e67 F).den [Enc.enc x0] = some (Enc.enc (r : (S1 (List Int)))) := da_put (f := fun (x : ((Int × (List (Int × Int))) × Unit)) => i_netOf F x.1) (t := fun (r : (S1 (List Int))) => (Enc.enc (r : (S1 (List Int))))) (x0, ()) h
theorem o67 {D : Den} {σ : Sig} {F : Nat} (hF : Fits2 Try.prog D σ) (H : H67 D σ F) : (e67 F).Ok Try.prog := by
  refine ⟨fun args r h => ?_, ⟨Try.f67, Try.func67, rfl, rfl⟩⟩
  obtain ⟨⟨x0, _⟩, y, rfl, hy, rfl⟩ := da_open h
  exact contract_run hF (by kernel_rfl) Try.func67 rfl c67 (show 1 ≤ Try.f67.ntmps by decide) (t67 H x0 _ rfl hy)
end Go.Zq
