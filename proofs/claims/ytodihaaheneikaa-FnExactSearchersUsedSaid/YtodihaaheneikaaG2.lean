/- Functions of the program as typed functions, and that the machine runs as they say (part 2). No further condition. -/
import Derived.Test.YtodihaaheneikaaK2
import Derived.Test.YtodihaaheneikaaProg
import Derived.Test.YtodihaaheneikaaChecked
import Derived.KernelRfl
import Derived.Test.YtodihaaheneikaaG1
set_option linter.unusedVariables false
set_option linter.unusedSimpArgs false
/- Functions of the program, as typed functions, and that the machine runs as they say. -/
namespace Go.Zq
open Go.Proofs
/- loop.example/g01109/spec.l2Reach -/
def A121_2 : AC := (AC.cond (O.t 16) AC.skip (AC.exit 0))
def A121_6 : AC := (AC.cond (O.t 22) AC.skip (AC.exit 2))
def A121_10 : AC := (AC.cond (O.t 37) AC.skip (AC.exit 4))
def A121_12 : AC := (AC.cond (O.t 49) (AC.reg [.frz 7] [(I.mk (some 50) none false (X.v (A.mov (O.t 7)))), (I.mk (some 51) none false (X.v (A.mov (O.t 1)))), (I.mk (some 52) none false (X.v (A.mov (O.t 9)))), (I.mk (some 53) none false (X.v (A.idx (O.t 51) (O.t 52) 1))), (I.mk (some 54) none false (X.v (A.load Sh.s (O.t 53)))), (I.mk (some 55) none false (X.call (O.k (V.fn 110 [] [])) [(O.t 50), (O.t 54)])), (I.mk (some 7) none false (X.v (A.mov (O.t 55))))] []) AC.skip)
def A121_13 : AC := (AC.reg [] [(I.mk (some 38) none false (X.v (A.mov (O.t 10)))), (I.mk (some 39) none false (X.v (A.bin BinOp.add (O.t 38) (O.k (V.int IntKind.i64 (Int.ofNat 1)))))), (I.mk (some 10) none false (X.v (A.mov (O.t 39))))] [])
def A121_11 : AC := (AC.seq (AC.block 5 (AC.seq (AC.reg [] [(I.mk (some 40) none false (X.v (A.load (Sh.ag [Sh.s, Sh.p]) (O.t 3)))), (I.mk (some 41) none false (X.v (A.mov (O.t 7)))), (I.mk (some 42) none false (X.v (A.mov (O.t 10)))), (I.mk (some 43) none false (X.v (A.idx (O.t 41) (O.t 42) 1))), (I.mk (some 44) none false (X.v (A.load Sh.s (O.t 43)))), (I.mk (some 45) none false (X.v (A.mov (O.t 1)))), (I.mk (some 46) none false (X.v (A.mov (O.t 9)))), (I.mk (some 47) none false (X.v (A.idx (O.t 45) (O.t 46) 1))), (I.mk (some 48) none false (X.v (A.load Sh.s (O.t 47)))), (I.mk (some 49) none false (X.call (O.k (V.fn 122 [] [])) [(O.t 40), (O.t 44), (O.t 48)]))] []) A121_12)) A121_13)
def A121_9 : AC := (AC.seq (AC.seq (AC.reg [] [(I.mk (some 25) none false (X.v (A.mov (O.t 10)))), (I.mk (some 26) none false (X.v (A.mov (O.t 7)))), (I.mk (some 27) none false (X.v (A.len (O.t 26)))), (I.mk (some 28) none false (X.v (A.bin BinOp.lss (O.t 25) (O.t 27)))), (I.mk (some 29) none false (X.v (A.mov (O.t 28)))), (I.mk (some 30) (some (29, true)) false (X.v (A.mov (O.t 7)))), (I.mk (some 31) (some (29, true)) false (X.v (A.mov (O.t 1)))), (I.mk (some 32) (some (29, true)) false (X.v (A.mov (O.t 9)))), (I.mk (some 33) (some (29, true)) false (X.v (A.idx (O.t 31) (O.t 32) 1))), (I.mk (some 34) (some (29, true)) false (X.v (A.load Sh.s (O.t 33)))), (I.mk (some 35) (some (29, true)) false (X.call (O.k (V.fn 45 [] [])) [(O.t 30), (O.t 34)])), (I.mk (some 36) (some (29, true)) false (X.v (A.un UnOp.not (O.t 35)))), (I.mk (some 37) none false (X.v (A.pick (O.t 29) (O.t 36) (O.k (V.bool false)))))] []) A121_10) A121_11)
def A121_8 : AC := (AC.block 4 (AC.loop A121_9))
def A121_14 : AC := (AC.reg [] [(I.mk (some 23) none false (X.v (A.mov (O.t 9)))), (I.mk (some 24) none false (X.v (A.bin BinOp.add (O.t 23) (O.k (V.int IntKind.i64 (Int.ofNat 1)))))), (I.mk (some 9) none false (X.v (A.mov (O.t 24))))] [])
def A121_7 : AC := (AC.seq (AC.block 3 (AC.seq (AC.reg [] [(I.mk (some 10) none false (X.v (A.mov (O.k (V.int IntKind.i64 (Int.ofNat 0))))))] []) A121_8)) A121_14)
def A121_5 : AC := (AC.seq (AC.seq (AC.reg [] [(I.mk (some 19) none false (X.v (A.mov (O.t 9)))), (I.mk (some 20) none false (X.v (A.mov (O.t 1)))), (I.mk (some 21) none false (X.v (A.len (O.t 20)))), (I.mk (some 22) none false (X.v (A.bin BinOp.lss (O.t 19) (O.t 21))))] []) A121_6) A121_7)
def A121_4 : AC := (AC.block 2 (AC.loop A121_5))
def A121_15 : AC := (AC.reg [] [(I.mk (some 17) none false (X.v (A.mov (O.t 8)))), (I.mk (some 18) none false (X.v (A.bin BinOp.add (O.t 17) (O.k (V.int IntKind.i64 (Int.ofNat 1)))))), (I.mk (some 8) none false (X.v (A.mov (O.t 18))))] [])
def A121_3 : AC := (AC.seq (AC.block 1 (AC.seq (AC.reg [] [(I.mk (some 9) none false (X.v (A.mov (O.k (V.int IntKind.i64 (Int.ofNat 0))))))] []) A121_4)) A121_15)
def A121_1 : AC := (AC.seq (AC.seq (AC.reg [] [(I.mk (some 13) none false (X.v (A.mov (O.t 8)))), (I.mk (some 14) none false (X.v (A.mov (O.t 1)))), (I.mk (some 15) none false (X.v (A.len (O.t 14)))), (I.mk (some 16) none false (X.v (A.bin BinOp.lss (O.t 13) (O.t 15))))] []) A121_2) A121_3)
def A121_16 : AC := (AC.seq (AC.reg [] [(I.mk (some 56) none false (X.v (A.mov (O.t 7)))), (I.mk (some 6) none false (X.v (A.mov (O.t 56))))] []) AC.ret)
def A121_19 : AC := (AC.block 0 (AC.loop A121_1))
def A121_18 : AC := (AC.seq (AC.seq (AC.reg [] [(I.mk (some 8) none false (X.v (A.mov (O.k (V.int IntKind.i64 (Int.ofNat 0))))))] []) A121_19) A121_16)
def A121_17 : AC := (AC.seq (AC.reg [.clr [12]] [(I.mk (some 11) none false (X.v (A.mov (O.t 2)))), (I.mk (some 12) none false (X.lit (V.int IntKind.i64 (Int.ofNat 0)) 1 [(0, 0, (O.t 11))])), (I.mk (some 7) none false (X.v (A.mov (O.t 12))))] [.home 12 7, .frz 7]) A121_18)
def A121 : AC := (AC.seq (AC.reg [.clr [3]] [(I.mk (some 3) none false (X.box (O.t 0))), (I.mk (some 6) none false (X.v (A.mov (O.k (V.sl Tok.nl Sh.s 0 [])))))] []) A121_17)
def an121 : List An := [{ id := 0, pre := [.clr [3]], ep := [], lin := [], sp := [] }, { id := 1, pre := [.clr [12]], ep := [.home 12 7, .frz 7], lin := [], sp := [] }, { id := 12, pre := [.frz 7], ep := [], lin := [], sp := [] }]
theorem c121 : cC Try.prog Try.f121.ntmps an121 (Try.f121.body.getD .skip) = some A121 := by kernel_rfl
structure H121 (D : Den) (σ : Sig) (F : Nat) : Prop where
  c45 : ∀ (x0 : (List Int)) (x1 : Int) r, s_l1Has F x0 x1 = some r → D 45 [Enc.enc x0, Enc.enc x1] = some (Enc.enc (r : Bool))
  g45 : σ 45 = some (0, false)
  c122 : ∀ (x0 : (Int × (List (Int × Int)))) (x1 : Int) (x2 : Int) r, s_l2Near F x0 x1 x2 = some r → D 122 [Enc.enc x0, Enc.enc x1, Enc.enc x2] = some (Enc.enc (r : Bool))
  g122 : σ 122 = some (0, false)
  c110 : ∀ (x0 : (List Int)) (x1 : Int) r, s_l1Put F x0 x1 = some r → D 110 [Enc.enc x0, Enc.enc x1] = some (Enc.enc (r : (List Int)))
  g110 : σ 110 = some (0, true)
abbrev R121 (r : (List Int)) : (Nat → V) → Prop := RR Try.prog [.tmp 6] 0 true (Enc.enc (r : (List Int)))
section
variable {D : Den} {σ : Sig} {F : Nat} {r : (List Int)}
def s_l2Reach_j1 (F : Nat) (set_2 : (List Int)) (g_1 : (Int × (List (Int × Int)))) (round_130 : Int) (i_298 : Int) (k_354 : Int) (c1 : (List Int) → Int → Option (List Int)) (c10 : (List Int) → Int → Option (List Int)) (c13 : (List Int) → Int → Option (List Int)) (out_376 : (List Int)) : Option (List Int) :=
  c13 out_376 (w64 (k_354 + 1))
theorem t_f121_j1 (H : H121 D σ F) (set_2 : (List Int)) (g_1 : (Int × (List (Int × Int)))) (round_130 : Int) (i_298 : Int) (k_354 : Int) (c1 : (List Int) → Int → Option (List Int)) (Hc1 : ∀ (out_129 : (List Int)) (round_130 : Int) (s : Nat → V), Facts [(1, (Enc.enc (set_2 : List Int))), (3, (.ref (.bx 3) 0 [] (.agg [(.int .i64 g_1.1), (Enc.enc (g_1.2 : List (Int × Int)))]))), (6, (.sl .nl (Enc.shp Int) 0 [])), (7, (Enc.enc (out_129 : List Int))), (8, (.int .i64 round_130))] s → c1 out_129 round_130 = some r → Run D σ (R121 r) (.run A121_1 [.lp A121_1, .bk 0, .sq A121_16]) s) (c10 : (List Int) → Int → Option (List Int)) (Hc10 : ∀ (out_297 : (List Int)) (i_298 : Int) (s : Nat → V), Facts [(1, (Enc.enc (set_2 : List Int))), (3, (.ref (.bx 3) 0 [] (.agg [(.int .i64 g_1.1), (Enc.enc (g_1.2 : List (Int × Int)))]))), (6, (.sl .nl (Enc.shp Int) 0 [])), (7, (Enc.enc (out_297 : List Int))), (8, (.int .i64 round_130)), (9, (.int .i64 i_298))] s → c10 out_297 i_298 = some r → Run D σ (R121 r) (.run A121_5 [.lp A121_5, .bk 2, .bk 1, .sq A121_15, .lp A121_1, .bk 0, .sq A121_16]) s) (c13 : (List Int) → Int → Option (List Int)) (Hc13 : ∀ (out_353 : (List Int)) (k_354 : Int) (s : Nat → V), Facts [(1, (Enc.enc (set_2 : List Int))), (3, (.ref (.bx 3) 0 [] (.agg [(.int .i64 g_1.1), (Enc.enc (g_1.2 : List (Int × Int)))]))), (6, (.sl .nl (Enc.shp Int) 0 [])), (7, (Enc.enc (out_353 : List Int))), (8, (.int .i64 round_130)), (9, (.int .i64 i_298)), (10, (.int .i64 k_354))] s → c13 out_353 k_354 = some r → Run D σ (R121 r) (.run A121_9 [.lp A121_9, .bk 4, .bk 3, .sq A121_14, .lp A121_5, .bk 2, .bk 1, .sq A121_15, .lp A121_1, .bk 0, .sq A121_16]) s) (out_376 : (List Int)) (s : Nat → V) (hs : Facts [(1, (Enc.enc (set_2 : List Int))), (3, (.ref (.bx 3) 0 [] (.agg [(.int .i64 g_1.1), (Enc.enc (g_1.2 : List (Int × Int)))]))), (6, (.sl .nl (Enc.shp Int) 0 [])), (7, (Enc.enc (out_376 : List Int))), (8, (.int .i64 round_130)), (9, (.int .i64 i_298)), (10, (.int .i64 k_354))] s) (h : s_l2Reach_j1 F set_2 g_1 round_130 i_298 k_354 c1 c10 c13 out_376 = some r) : Run D σ (R121 r) (.nrm [.bk 5, .sq A121_13, .lp A121_9, .bk 4, .bk 3, .sq A121_14, .lp A121_5, .bk 2, .bk 1, .sq A121_15, .lp A121_1, .bk 0, .sq A121_16]) s := by
  unfold s_l2Reach_j1 at h
  obtain ⟨h1, h3, h6, h7, h8, h9, h10⟩ := hs
  refine .nbk ?_
  refine .nsq ?_
  refine run_reg ?_
  refine e_end ?_
  refine g_v1 (t := 10) (u := (.int .i64 k_354)) (.int .i64 k_354) h10 rfl rfl ?_
  refine g_v1 (t := 38) (u := (.int .i64 k_354)) (.int .i64 (w64 (k_354 + 1))) rfl rfl rfl ?_
  refine g_v1 (t := 39) (u := (.int .i64 (w64 (k_354 + 1)))) (.int .i64 (w64 (k_354 + 1))) rfl rfl rfl ?_
  refine g_end ?_
  refine e_end ?_
  refine renew [(1, (Enc.enc (set_2 : List Int))), (3, (.ref (.bx 3) 0 [] (.agg [(.int .i64 g_1.1), (Enc.enc (g_1.2 : List (Int × Int)))]))), (6, (.sl .nl (Enc.shp Int) 0 [])), (7, (Enc.enc (out_376 : List Int))), (8, (.int .i64 round_130)), (9, (.int .i64 i_298)), (10, (.int .i64 (w64 (k_354 + 1))))] ⟨h1, h3, h6, h7, h8, h9, rfl⟩ ?_
  rintro s ⟨h1, h3, h6, h7, h8, h9, h10⟩
  refine .nlp ?_
  exact Hc13 out_376 (w64 (k_354 + 1)) _ ⟨h1, h3, h6, h7, h8, h9, h10⟩ h
def s_l2Reach_j2 (F : Nat) (set_2 : (List Int)) (g_1 : (Int × (List (Int × Int)))) (out_353 : (List Int)) (round_130 : Int) (i_298 : Int) (k_354 : Int) (c1 : (List Int) → Int → Option (List Int)) (c10 : (List Int) → Int → Option (List Int)) (c13 : (List Int) → Int → Option (List Int)) (t37_370 : Bool) : Option (List Int) :=
  bif t37_370 then
    (idx out_353 k_354).bind fun e_371 =>
    (idx set_2 i_298).bind fun e_372 =>
    (s_l2Near F g_1 e_371 e_372).bind fun r_373 =>
    bif r_373 then
      (idx set_2 i_298).bind fun e_377 =>
      (s_l1Put F out_353 e_377).bind fun r_378 =>
      s_l2Reach_j1 F set_2 g_1 round_130 i_298 k_354 c1 c10 c13 r_378
    else
      s_l2Reach_j1 F set_2 g_1 round_130 i_298 k_354 c1 c10 c13 out_353
  else
    c10 out_353 (w64 (i_298 + 1))
theorem t_f121_j2 (H : H121 D σ F) (set_2 : (List Int)) (g_1 : (Int × (List (Int × Int)))) (out_353 : (List Int)) (round_130 : Int) (i_298 : Int) (k_354 : Int) (c1 : (List Int) → Int → Option (List Int)) (Hc1 : ∀ (out_129 : (List Int)) (round_130 : Int) (s : Nat → V), Facts [(1, (Enc.enc (set_2 : List Int))), (3, (.ref (.bx 3) 0 [] (.agg [(.int .i64 g_1.1), (Enc.enc (g_1.2 : List (Int × Int)))]))), (6, (.sl .nl (Enc.shp Int) 0 [])), (7, (Enc.enc (out_129 : List Int))), (8, (.int .i64 round_130))] s → c1 out_129 round_130 = some r → Run D σ (R121 r) (.run A121_1 [.lp A121_1, .bk 0, .sq A121_16]) s) (c10 : (List Int) → Int → Option (List Int)) (Hc10 : ∀ (out_297 : (List Int)) (i_298 : Int) (s : Nat → V), Facts [(1, (Enc.enc (set_2 : List Int))), (3, (.ref (.bx 3) 0 [] (.agg [(.int .i64 g_1.1), (Enc.enc (g_1.2 : List (Int × Int)))]))), (6, (.sl .nl (Enc.shp Int) 0 [])), (7, (Enc.enc (out_297 : List Int))), (8, (.int .i64 round_130)), (9, (.int .i64 i_298))] s → c10 out_297 i_298 = some r → Run D σ (R121 r) (.run A121_5 [.lp A121_5, .bk 2, .bk 1, .sq A121_15, .lp A121_1, .bk 0, .sq A121_16]) s) (c13 : (List Int) → Int → Option (List Int)) (Hc13 : ∀ (out_353 : (List Int)) (k_354 : Int) (s : Nat → V), Facts [(1, (Enc.enc (set_2 : List Int))), (3, (.ref (.bx 3) 0 [] (.agg [(.int .i64 g_1.1), (Enc.enc (g_1.2 : List (Int × Int)))]))), (6, (.sl .nl (Enc.shp Int) 0 [])), (7, (Enc.enc (out_353 : List Int))), (8, (.int .i64 round_130)), (9, (.int .i64 i_298)), (10, (.int .i64 k_354))] s → c13 out_353 k_354 = some r → Run D σ (R121 r) (.run A121_9 [.lp A121_9, .bk 4, .bk 3, .sq A121_14, .lp A121_5, .bk 2, .bk 1, .sq A121_15, .lp A121_1, .bk 0, .sq A121_16]) s) (t37_370 : Bool) (s : Nat → V) (hs : Facts [(1, (Enc.enc (set_2 : List Int))), (3, (.ref (.bx 3) 0 [] (.agg [(.int .i64 g_1.1), (Enc.enc (g_1.2 : List (Int × Int)))]))), (6, (.sl .nl (Enc.shp Int) 0 [])), (7, (Enc.enc (out_353 : List Int))), (8, (.int .i64 round_130)), (9, (.int .i64 i_298)), (10, (.int .i64 k_354)), (37, (.bool t37_370))] s) (h : s_l2Reach_j2 F set_2 g_1 out_353 round_130 i_298 k_354 c1 c10 c13 t37_370 = some r) : Run D σ (R121 r) (.nrm [.sq A121_10, .sq A121_11, .lp A121_9, .bk 4, .bk 3, .sq A121_14, .lp A121_5, .bk 2, .bk 1, .sq A121_15, .lp A121_1, .bk 0, .sq A121_16]) s := by
  unfold s_l2Reach_j2 at h
  obtain ⟨h1, h3, h6, h7, h8, h9, h10, h37⟩ := hs
  refine .nsq ?_
  refine run_cond (t := t37_370) h37 h (fun h => ?_) (fun h => ?_)
  · refine .skip ?_
    refine .nsq ?_
    refine .seq ?_
    refine .block ?_
    refine .seq ?_
    refine run_reg ?_
    refine e_end ?_
    refine g_v1 (t := 3) (u := (.ref (.bx 3) 0 [] (.agg [(.int .i64 g_1.1), (Enc.enc (g_1.2 : List (Int × Int)))]))) (.agg [(.int .i64 g_1.1), (Enc.enc (g_1.2 : List (Int × Int)))]) h3 rfl rfl ?_
    refine g_v1 (t := 7) (u := (Enc.enc (out_353 : List Int))) (Enc.enc (out_353 : List Int)) h7 rfl rfl ?_
    refine g_v1 (t := 10) (u := (.int .i64 k_354)) (.int .i64 k_354) h10 rfl rfl ?_
    obtain ⟨e_371, E_e_371, h⟩ := bind_some h
    refine g_v (.ref .sh 0 [] (.int .i64 e_371)) (ev_idx (t := .sh) (lo := 0) (xs := out_353) rfl rfl E_e_371 rfl rfl) ?_
    refine g_v1 (t := 43) (u := (.ref .sh 0 [] (.int .i64 e_371))) (.int .i64 e_371) rfl rfl rfl ?_
    refine g_v1 (t := 1) (u := (Enc.enc (set_2 : List Int))) (Enc.enc (set_2 : List Int)) h1 rfl rfl ?_
    refine g_v1 (t := 9) (u := (.int .i64 i_298)) (.int .i64 i_298) h9 rfl rfl ?_
    obtain ⟨e_372, E_e_372, h⟩ := bind_some h
    refine g_v (.ref .sh 0 [] (.int .i64 e_372)) (ev_idx (t := .sh) (lo := 0) (xs := set_2) rfl rfl E_e_372 rfl rfl) ?_
    refine g_v1 (t := 47) (u := (.ref .sh 0 [] (.int .i64 e_372))) (.int .i64 e_372) rfl rfl rfl ?_
    obtain ⟨r_373, E_r_373, h⟩ := bind_some h
    refine g_call (m := 0) (al := false) (r := (Enc.enc (r_373 : Bool))) [Enc.enc (g_1 : (Int × (List (Int × Int)))), Enc.enc (e_371 : Int), Enc.enc (e_372 : Int)] (ta_cons (v := (.agg [(.int .i64 g_1.1), (Enc.enc (g_1.2 : List (Int × Int)))])) rfl rfl (Enc.erase_enc (g_1 : (Int × (List (Int × Int))))) (ta_cons (v := (.int .i64 e_371)) rfl rfl rfl (ta_cons (v := (.int .i64 e_372)) rfl rfl rfl ta_nil))) (H.c122 _ _ _ _ E_r_373) H.g122 rfl rfl rfl rfl ?_
    refine g_end ?_
    refine e_end ?_
    refine renew [(1, (Enc.enc (set_2 : List Int))), (3, (.ref (.bx 3) 0 [] (.agg [(.int .i64 g_1.1), (Enc.enc (g_1.2 : List (Int × Int)))]))), (6, (.sl .nl (Enc.shp Int) 0 [])), (7, (Enc.enc (out_353 : List Int))), (8, (.int .i64 round_130)), (9, (.int .i64 i_298)), (10, (.int .i64 k_354)), (49, (.bool r_373))] ⟨h1, h3, h6, h7, h8, h9, h10, rfl⟩ ?_
    rintro s ⟨h1, h3, h6, h7, h8, h9, h10, h49⟩
    refine .nsq ?_
    refine run_cond (t := r_373) h49 h (fun h => ?_) (fun h => ?_)
    · refine run_reg ?_
      refine e_frz (x := 7) (v := (Enc.enc (out_353 : List Int))) [] (by exact h7) (Enc.toks_enc (out_353 : List Int)) (fun s_58 hg_58 => ?_)
      refine e_end ?_
      refine g_v1 (t := 7) (u := (Enc.enc (out_353 : List Int))) (Enc.enc (out_353 : List Int)) (hg_58 7 (Enc.enc (out_353 : List Int)) (Enc.enc (out_353 : List Int)) h7 (frz_none _)) rfl rfl ?_
      refine g_v1 (t := 1) (u := (Enc.enc (set_2 : List Int))) (Enc.enc (set_2 : List Int)) (hg_58 1 (Enc.enc (set_2 : List Int)) (Enc.enc (set_2 : List Int)) h1 (frz_none _)) rfl rfl ?_
      refine g_v1 (t := 9) (u := (.int .i64 i_298)) (.int .i64 i_298) (hg_58 9 (.int .i64 i_298) (.int .i64 i_298) h9 (frz_none _)) rfl rfl ?_
      obtain ⟨e_377, E_e_377, h⟩ := bind_some h
      refine g_v (.ref .sh 0 [] (.int .i64 e_377)) (ev_idx (t := .sh) (lo := 0) (xs := set_2) rfl rfl E_e_377 rfl rfl) ?_
      refine g_v1 (t := 53) (u := (.ref .sh 0 [] (.int .i64 e_377))) (.int .i64 e_377) rfl rfl rfl ?_
      obtain ⟨r_378, E_r_378, h⟩ := bind_some h
      refine g_call (m := 0) (al := true) (r := (Enc.enc (r_378 : (List Int)))) [Enc.enc (out_353 : (List Int)), Enc.enc (e_377 : Int)] (ta_cons (v := (Enc.enc (out_353 : List Int))) rfl rfl (Enc.erase_enc (out_353 : (List Int))) (ta_cons (v := (.int .i64 e_377)) rfl rfl rfl ta_nil)) (H.c110 _ _ _ E_r_378) H.g110 (hal_of (ht_cons (v := (Enc.enc (out_353 : List Int))) rfl rfl rfl (ht_cons (v := (.int .i64 e_377)) rfl rfl rfl ht_nil))) rfl rfl rfl ?_
      refine g_v1 (t := 55) (u := (Enc.enc (r_378 : List Int))) (Enc.enc (r_378 : List Int)) rfl rfl rfl ?_
      refine g_end ?_
      refine e_end ?_
      refine renew [(1, (Enc.enc (set_2 : List Int))), (3, (.ref (.bx 3) 0 [] (.agg [(.int .i64 g_1.1), (Enc.enc (g_1.2 : List (Int × Int)))]))), (6, (.sl .nl (Enc.shp Int) 0 [])), (7, (Enc.enc (r_378 : List Int))), (8, (.int .i64 round_130)), (9, (.int .i64 i_298)), (10, (.int .i64 k_354))] ⟨(hg_58 1 (Enc.enc (set_2 : List Int)) (Enc.enc (set_2 : List Int)) h1 (frz_none _)), (hg_58 3 (.ref (.bx 3) 0 [] (.agg [(.int .i64 g_1.1), (Enc.enc (g_1.2 : List (Int × Int)))])) (.ref (.bx 3) 0 [] (.agg [(.int .i64 g_1.1), (Enc.enc (g_1.2 : List (Int × Int)))])) h3 (frz_none _)), (hg_58 6 (.sl .nl (Enc.shp Int) 0 []) (.sl .nl (Enc.shp Int) 0 []) h6 (frz_none _)), rfl, (hg_58 8 (.int .i64 round_130) (.int .i64 round_130) h8 (frz_none _)), (hg_58 9 (.int .i64 i_298) (.int .i64 i_298) h9 (frz_none _)), (hg_58 10 (.int .i64 k_354) (.int .i64 k_354) h10 (frz_none _))⟩ ?_
      rintro s ⟨h1, h3, h6, h7, h8, h9, h10⟩
      exact t_f121_j1 H set_2 g_1 round_130 i_298 k_354 c1 Hc1 c10 Hc10 c13 Hc13 r_378 _ ⟨h1, h3, h6, h7, h8, h9, h10⟩ h
    · refine .skip ?_
      exact t_f121_j1 H set_2 g_1 round_130 i_298 k_354 c1 Hc1 c10 Hc10 c13 Hc13 out_353 _ ⟨h1, h3, h6, h7, h8, h9, h10⟩ h
  · refine .exit ?_
    refine .esq ?_
    refine .elp ?_
    refine .ebk ?_
    refine .nbk ?_
    refine .nsq ?_
    refine run_reg ?_
    refine e_end ?_
    refine g_v1 (t := 9) (u := (.int .i64 i_298)) (.int .i64 i_298) h9 rfl rfl ?_
    refine g_v1 (t := 23) (u := (.int .i64 i_298)) (.int .i64 (w64 (i_298 + 1))) rfl rfl rfl ?_
    refine g_v1 (t := 24) (u := (.int .i64 (w64 (i_298 + 1)))) (.int .i64 (w64 (i_298 + 1))) rfl rfl rfl ?_
    refine g_end ?_
    refine e_end ?_
    refine renew [(1, (Enc.enc (set_2 : List Int))), (3, (.ref (.bx 3) 0 [] (.agg [(.int .i64 g_1.1), (Enc.enc (g_1.2 : List (Int × Int)))]))), (6, (.sl .nl (Enc.shp Int) 0 [])), (7, (Enc.enc (out_353 : List Int))), (8, (.int .i64 round_130)), (9, (.int .i64 (w64 (i_298 + 1))))] ⟨h1, h3, h6, h7, h8, rfl⟩ ?_
    rintro s ⟨h1, h3, h6, h7, h8, h9⟩
    refine .nlp ?_
    exact Hc10 out_353 (w64 (i_298 + 1)) _ ⟨h1, h3, h6, h7, h8, h9⟩ h
def s_l2Reach_l1 (F : Nat) (set_2 : (List Int)) (g_1 : (Int × (List (Int × Int)))) (round_130 : Int) (i_298 : Int) (c1 : (List Int) → Int → Option (List Int)) (c10 : (List Int) → Int → Option (List Int)) : Nat → (List Int) → Int → Option (List Int)
  | 0, _, _ => none
  | k + 1, out_353, k_354 =>
    bif decide (k_354 < (out_353.length : Int)) then
      (idx set_2 i_298).bind fun e_379 =>
      (s_l1Has F out_353 e_379).bind fun r_380 =>
      s_l2Reach_j2 F set_2 g_1 out_353 round_130 i_298 k_354 c1 c10 (s_l2Reach_l1 F set_2 g_1 round_130 i_298 c1 c10 k) (!r_380)
    else
      s_l2Reach_j2 F set_2 g_1 out_353 round_130 i_298 k_354 c1 c10 (s_l2Reach_l1 F set_2 g_1 round_130 i_298 c1 c10 k) false
theorem t_f121_l1 (H : H121 D σ F) (set_2 : (List Int)) (g_1 : (Int × (List (Int × Int)))) (round_130 : Int) (i_298 : Int) (c1 : (List Int) → Int → Option (List Int)) (Hc1 : ∀ (out_129 : (List Int)) (round_130 : Int) (s : Nat → V), Facts [(1, (Enc.enc (set_2 : List Int))), (3, (.ref (.bx 3) 0 [] (.agg [(.int .i64 g_1.1), (Enc.enc (g_1.2 : List (Int × Int)))]))), (6, (.sl .nl (Enc.shp Int) 0 [])), (7, (Enc.enc (out_129 : List Int))), (8, (.int .i64 round_130))] s → c1 out_129 round_130 = some r → Run D σ (R121 r) (.run A121_1 [.lp A121_1, .bk 0, .sq A121_16]) s) (c10 : (List Int) → Int → Option (List Int)) (Hc10 : ∀ (out_297 : (List Int)) (i_298 : Int) (s : Nat → V), Facts [(1, (Enc.enc (set_2 : List Int))), (3, (.ref (.bx 3) 0 [] (.agg [(.int .i64 g_1.1), (Enc.enc (g_1.2 : List (Int × Int)))]))), (6, (.sl .nl (Enc.shp Int) 0 [])), (7, (Enc.enc (out_297 : List Int))), (8, (.int .i64 round_130)), (9, (.int .i64 i_298))] s → c10 out_297 i_298 = some r → Run D σ (R121 r) (.run A121_5 [.lp A121_5, .bk 2, .bk 1, .sq A121_15, .lp A121_1, .bk 0, .sq A121_16]) s) : ∀ (k : Nat) (out_353 : (List Int)) (k_354 : Int) (s : Nat → V), Facts [(1, (Enc.enc (set_2 : List Int))), (3, (.ref (.bx 3) 0 [] (.agg [(.int .i64 g_1.1), (Enc.enc (g_1.2 : List (Int × Int)))]))), (6, (.sl .nl (Enc.shp Int) 0 [])), (7, (Enc.enc (out_353 : List Int))), (8, (.int .i64 round_130)), (9, (.int .i64 i_298)), (10, (.int .i64 k_354))] s → s_l2Reach_l1 F set_2 g_1 round_130 i_298 c1 c10 k out_353 k_354 = some r → Run D σ (R121 r) (.run A121_9 [.lp A121_9, .bk 4, .bk 3, .sq A121_14, .lp A121_5, .bk 2, .bk 1, .sq A121_15, .lp A121_1, .bk 0, .sq A121_16]) s := by
  intro k
  induction k with
  | zero => intro out_353 k_354 s _ h; exact nomatch (h : (none : Option _) = some r)
  | succ k ih =>
    intro out_353 k_354 s hs h
    rw [s_l2Reach_l1] at h
    obtain ⟨h1, h3, h6, h7, h8, h9, h10⟩ := hs
    refine .seq ?_
    refine .seq ?_
    refine run_reg ?_
    refine e_end ?_
    refine g_v1 (t := 10) (u := (.int .i64 k_354)) (.int .i64 k_354) h10 rfl rfl ?_
    refine g_v1 (t := 7) (u := (Enc.enc (out_353 : List Int))) (Enc.enc (out_353 : List Int)) h7 rfl rfl ?_
    refine g_v (.int .i64 (out_353.length : Int)) (ev_len (xs := out_353) rfl) ?_
    refine g_v2 (t1 := 25) (t2 := 27) (u1 := (.int .i64 k_354)) (u2 := (.int .i64 (out_353.length : Int))) (.bool (decide (k_354 < (out_353.length : Int)))) rfl rfl rfl rfl ?_
    refine g_v1 (t := 28) (u := (.bool (decide (k_354 < (out_353.length : Int))))) (.bool (decide (k_354 < (out_353.length : Int)))) rfl rfl rfl ?_
    refine split_on (c := decide (k_354 < (out_353.length : Int))) h (fun hg5 h => ?_) (fun hg5 h => ?_)
    · refine g_yes (Eq.trans (b := .bool (decide (k_354 < (out_353.length : Int)))) rfl (congrArg V.bool hg5)) (g_v1 (t := 7) (u := (Enc.enc (out_353 : List Int))) (Enc.enc (out_353 : List Int)) h7 rfl rfl ?_)
      refine g_yes (Eq.trans (b := .bool (decide (k_354 < (out_353.length : Int)))) rfl (congrArg V.bool hg5)) (g_v1 (t := 1) (u := (Enc.enc (set_2 : List Int))) (Enc.enc (set_2 : List Int)) h1 rfl rfl ?_)
      refine g_yes (Eq.trans (b := .bool (decide (k_354 < (out_353.length : Int)))) rfl (congrArg V.bool hg5)) (g_v1 (t := 9) (u := (.int .i64 i_298)) (.int .i64 i_298) h9 rfl rfl ?_)
      obtain ⟨e_379, E_e_379, h⟩ := bind_some h
      refine g_yes (Eq.trans (b := .bool (decide (k_354 < (out_353.length : Int)))) rfl (congrArg V.bool hg5)) (g_v (.ref .sh 0 [] (.int .i64 e_379)) (ev_idx (t := .sh) (lo := 0) (xs := set_2) rfl rfl E_e_379 rfl rfl) ?_)
      refine g_yes (Eq.trans (b := .bool (decide (k_354 < (out_353.length : Int)))) rfl (congrArg V.bool hg5)) (g_v1 (t := 33) (u := (.ref .sh 0 [] (.int .i64 e_379))) (.int .i64 e_379) rfl rfl rfl ?_)
      obtain ⟨r_380, E_r_380, h⟩ := bind_some h
      refine g_yes (Eq.trans (b := .bool (decide (k_354 < (out_353.length : Int)))) rfl (congrArg V.bool hg5)) (g_call (m := 0) (al := false) (r := (Enc.enc (r_380 : Bool))) [Enc.enc (out_353 : (List Int)), Enc.enc (e_379 : Int)] (ta_cons (v := (Enc.enc (out_353 : List Int))) rfl rfl (Enc.erase_enc (out_353 : (List Int))) (ta_cons (v := (.int .i64 e_379)) rfl rfl rfl ta_nil)) (H.c45 _ _ _ E_r_380) H.g45 rfl rfl rfl rfl ?_)
      refine g_yes (Eq.trans (b := .bool (decide (k_354 < (out_353.length : Int)))) rfl (congrArg V.bool hg5)) (g_v1 (t := 35) (u := (.bool r_380)) (.bool (!r_380)) rfl rfl rfl ?_)
      refine g_v2 (t1 := 29) (t2 := 36) (u1 := (.bool true)) (u2 := (.bool (!r_380))) (.bool (!r_380)) (Eq.trans (b := .bool (decide (k_354 < (out_353.length : Int)))) rfl (congrArg V.bool hg5)) rfl rfl rfl ?_
      refine g_end ?_
      refine e_end ?_
      refine renew [(1, (Enc.enc (set_2 : List Int))), (3, (.ref (.bx 3) 0 [] (.agg [(.int .i64 g_1.1), (Enc.enc (g_1.2 : List (Int × Int)))]))), (6, (.sl .nl (Enc.shp Int) 0 [])), (7, (Enc.enc (out_353 : List Int))), (8, (.int .i64 round_130)), (9, (.int .i64 i_298)), (10, (.int .i64 k_354)), (37, (.bool (!r_380)))] ⟨h1, h3, h6, h7, h8, h9, h10, rfl⟩ ?_
      rintro s ⟨h1, h3, h6, h7, h8, h9, h10, h37⟩
      exact t_f121_j2 H set_2 g_1 out_353 round_130 i_298 k_354 c1 Hc1 c10 Hc10 (s_l2Reach_l1 F set_2 g_1 round_130 i_298 c1 c10 k) ih (!r_380) _ ⟨h1, h3, h6, h7, h8, h9, h10, h37⟩ h
    · refine g_no (Eq.trans (b := .bool (decide (k_354 < (out_353.length : Int)))) rfl (congrArg V.bool hg5)) ?_
      refine g_no (Eq.trans (b := .bool (decide (k_354 < (out_353.length : Int)))) rfl (congrArg V.bool hg5)) ?_
      refine g_no (Eq.trans (b := .bool (decide (k_354 < (out_353.length : Int)))) rfl (congrArg V.bool hg5)) ?_
      refine g_no (Eq.trans (b := .bool (decide (k_354 < (out_353.length : Int)))) rfl (congrArg V.bool hg5)) ?_
      refine g_no (Eq.trans (b := .bool (decide (k_354 < (out_353.length : Int)))) rfl (congrArg V.bool hg5)) ?_
      refine g_no (Eq.trans (b := .bool (decide (k_354 < (out_353.length : Int)))) rfl (congrArg V.bool hg5)) ?_
      refine g_no (Eq.trans (b := .bool (decide (k_354 < (out_353.length : Int)))) rfl (congrArg V.bool hg5)) ?_
      refine g_v2 (t1 := 29) (t2 := 36) (u1 := (.bool false)) (u2 := (.tup [])) (.bool false) (Eq.trans (b := .bool (decide (k_354 < (out_353.length : Int)))) rfl (congrArg V.bool hg5)) rfl rfl rfl ?_
      refine g_end ?_
      refine e_end ?_
      refine renew [(1, (Enc.enc (set_2 : List Int))), (3, (.ref (.bx 3) 0 [] (.agg [(.int .i64 g_1.1), (Enc.enc (g_1.2 : List (Int × Int)))]))), (6, (.sl .nl (Enc.shp Int) 0 [])), (7, (Enc.enc (out_353 : List Int))), (8, (.int .i64 round_130)), (9, (.int .i64 i_298)), (10, (.int .i64 k_354)), (37, (.bool false))] ⟨h1, h3, h6, h7, h8, h9, h10, rfl⟩ ?_
      rintro s ⟨h1, h3, h6, h7, h8, h9, h10, h37⟩
      exact t_f121_j2 H set_2 g_1 out_353 round_130 i_298 k_354 c1 Hc1 c10 Hc10 (s_l2Reach_l1 F set_2 g_1 round_130 i_298 c1 c10 k) ih false _ ⟨h1, h3, h6, h7, h8, h9, h10, h37⟩ h
def s_l2Reach_l2 (F : Nat) (set_2 : (List Int)) (g_1 : (Int × (List (Int × Int)))) (round_130 : Int) (c1 : (List Int) → Int → Option (List Int)) : Nat → (List Int) → Int → Option (List Int)
  | 0, _, _ => none
  | k + 1, out_297, i_298 =>
    bif decide (i_298 < (set_2.length : Int)) then
      s_l2Reach_l1 F set_2 g_1 round_130 i_298 c1 (s_l2Reach_l2 F set_2 g_1 round_130 c1 k) F out_297 0
    else
      c1 out_297 (w64 (round_130 + 1))
theorem t_f121_l2 (H : H121 D σ F) (set_2 : (List Int)) (g_1 : (Int × (List (Int × Int)))) (round_130 : Int) (c1 : (List Int) → Int → Option (List Int)) (Hc1 : ∀ (out_129 : (List Int)) (round_130 : Int) (s : Nat → V), Facts [(1, (Enc.enc (set_2 : List Int))), (3, (.ref (.bx 3) 0 [] (.agg [(.int .i64 g_1.1), (Enc.enc (g_1.2 : List (Int × Int)))]))), (6, (.sl .nl (Enc.shp Int) 0 [])), (7, (Enc.enc (out_129 : List Int))), (8, (.int .i64 round_130))] s → c1 out_129 round_130 = some r → Run D σ (R121 r) (.run A121_1 [.lp A121_1, .bk 0, .sq A121_16]) s) : ∀ (k : Nat) (out_297 : (List Int)) (i_298 : Int) (s : Nat → V), Facts [(1, (Enc.enc (set_2 : List Int))), (3, (.ref (.bx 3) 0 [] (.agg [(.int .i64 g_1.1), (Enc.enc (g_1.2 : List (Int × Int)))]))), (6, (.sl .nl (Enc.shp Int) 0 [])), (7, (Enc.enc (out_297 : List Int))), (8, (.int .i64 round_130)), (9, (.int .i64 i_298))] s → s_l2Reach_l2 F set_2 g_1 round_130 c1 k out_297 i_298 = some r → Run D σ (R121 r) (.run A121_5 [.lp A121_5, .bk 2, .bk 1, .sq A121_15, .lp A121_1, .bk 0, .sq A121_16]) s := by
  intro k
  induction k with
  | zero => intro out_297 i_298 s _ h; exact nomatch (h : (none : Option _) = some r)
  | succ k ih =>
    intro out_297 i_298 s hs h
    rw [s_l2Reach_l2] at h
    obtain ⟨h1, h3, h6, h7, h8, h9⟩ := hs
    refine .seq ?_
    refine .seq ?_
    refine run_reg ?_
    refine e_end ?_
    refine g_v1 (t := 9) (u := (.int .i64 i_298)) (.int .i64 i_298) h9 rfl rfl ?_
    refine g_v1 (t := 1) (u := (Enc.enc (set_2 : List Int))) (Enc.enc (set_2 : List Int)) h1 rfl rfl ?_
    refine g_v (.int .i64 (set_2.length : Int)) (ev_len (xs := set_2) rfl) ?_
    refine g_v2 (t1 := 19) (t2 := 21) (u1 := (.int .i64 i_298)) (u2 := (.int .i64 (set_2.length : Int))) (.bool (decide (i_298 < (set_2.length : Int)))) rfl rfl rfl rfl ?_
    refine g_end ?_
    refine e_end ?_
    refine renew [(1, (Enc.enc (set_2 : List Int))), (3, (.ref (.bx 3) 0 [] (.agg [(.int .i64 g_1.1), (Enc.enc (g_1.2 : List (Int × Int)))]))), (6, (.sl .nl (Enc.shp Int) 0 [])), (7, (Enc.enc (out_297 : List Int))), (8, (.int .i64 round_130)), (9, (.int .i64 i_298)), (22, (.bool (decide (i_298 < (set_2.length : Int)))))] ⟨h1, h3, h6, h7, h8, h9, rfl⟩ ?_
    rintro s ⟨h1, h3, h6, h7, h8, h9, h22⟩
    refine .nsq ?_
    refine run_cond (t := decide (i_298 < (set_2.length : Int))) h22 h (fun h => ?_) (fun h => ?_)
    · refine .skip ?_
      refine .nsq ?_
      refine .seq ?_
      refine .block ?_
      refine .seq ?_
      refine run_reg ?_
      refine e_end ?_
      refine g_v0 (.int .i64 0) rfl rfl ?_
      refine g_end ?_
      refine e_end ?_
      refine renew [(1, (Enc.enc (set_2 : List Int))), (3, (.ref (.bx 3) 0 [] (.agg [(.int .i64 g_1.1), (Enc.enc (g_1.2 : List (Int × Int)))]))), (6, (.sl .nl (Enc.shp Int) 0 [])), (7, (Enc.enc (out_297 : List Int))), (8, (.int .i64 round_130)), (9, (.int .i64 i_298)), (10, (.int .i64 0))] ⟨h1, h3, h6, h7, h8, h9, rfl⟩ ?_
      rintro s ⟨h1, h3, h6, h7, h8, h9, h10⟩
      refine .nsq ?_
      refine .block ?_
      refine .loop ?_
      exact t_f121_l1 H set_2 g_1 round_130 i_298 c1 Hc1 (s_l2Reach_l2 F set_2 g_1 round_130 c1 k) ih F out_297 0 _ ⟨h1, h3, h6, h7, h8, h9, h10⟩ h
    · refine .exit ?_
      refine .esq ?_
      refine .elp ?_
      refine .ebk ?_
      refine .nbk ?_
      refine .nsq ?_
      refine run_reg ?_
      refine e_end ?_
      refine g_v1 (t := 8) (u := (.int .i64 round_130)) (.int .i64 round_130) h8 rfl rfl ?_
      refine g_v1 (t := 17) (u := (.int .i64 round_130)) (.int .i64 (w64 (round_130 + 1))) rfl rfl rfl ?_
      refine g_v1 (t := 18) (u := (.int .i64 (w64 (round_130 + 1)))) (.int .i64 (w64 (round_130 + 1))) rfl rfl rfl ?_
      refine g_end ?_
      refine e_end ?_
      refine renew [(1, (Enc.enc (set_2 : List Int))), (3, (.ref (.bx 3) 0 [] (.agg [(.int .i64 g_1.1), (Enc.enc (g_1.2 : List (Int × Int)))]))), (6, (.sl .nl (Enc.shp Int) 0 [])), (7, (Enc.enc (out_297 : List Int))), (8, (.int .i64 (w64 (round_130 + 1))))] ⟨h1, h3, h6, h7, rfl⟩ ?_
      rintro s ⟨h1, h3, h6, h7, h8⟩
      refine .nlp ?_
      exact Hc1 out_297 (w64 (round_130 + 1)) _ ⟨h1, h3, h6, h7, h8⟩ h
def s_l2Reach_l3 (F : Nat) (set_2 : (List Int)) (g_1 : (Int × (List (Int × Int))))  : Nat → (List Int) → Int → Option (List Int)
  | 0, _, _ => none
  | k + 1, out_129, round_130 =>
    bif decide (round_130 < (set_2.length : Int)) then
      s_l2Reach_l2 F set_2 g_1 round_130 (s_l2Reach_l3 F set_2 g_1 k) F out_129 0
    else
      some out_129
theorem t_f121_l3 (H : H121 D σ F) (set_2 : (List Int)) (g_1 : (Int × (List (Int × Int))))  : ∀ (k : Nat) (out_129 : (List Int)) (round_130 : Int) (s : Nat → V), Facts [(1, (Enc.enc (set_2 : List Int))), (3, (.ref (.bx 3) 0 [] (.agg [(.int .i64 g_1.1), (Enc.enc (g_1.2 : List (Int × Int)))]))), (6, (.sl .nl (Enc.shp Int) 0 [])), (7, (Enc.enc (out_129 : List Int))), (8, (.int .i64 round_130))] s → s_l2Reach_l3 F set_2 g_1 k out_129 round_130 = some r → Run D σ (R121 r) (.run A121_1 [.lp A121_1, .bk 0, .sq A121_16]) s := by
  intro k
  induction k with
  | zero => intro out_129 round_130 s _ h; exact nomatch (h : (none : Option _) = some r)
  | succ k ih =>
    intro out_129 round_130 s hs h
    rw [s_l2Reach_l3] at h
    obtain ⟨h1, h3, h6, h7, h8⟩ := hs
    refine .seq ?_
    refine .seq ?_
    refine run_reg ?_
    refine e_end ?_
    refine g_v1 (t := 8) (u := (.int .i64 round_130)) (.int .i64 round_130) h8 rfl rfl ?_
    refine g_v1 (t := 1) (u := (Enc.enc (set_2 : List Int))) (Enc.enc (set_2 : List Int)) h1 rfl rfl ?_
    refine g_v (.int .i64 (set_2.length : Int)) (ev_len (xs := set_2) rfl) ?_
    refine g_v2 (t1 := 13) (t2 := 15) (u1 := (.int .i64 round_130)) (u2 := (.int .i64 (set_2.length : Int))) (.bool (decide (round_130 < (set_2.length : Int)))) rfl rfl rfl rfl ?_
    refine g_end ?_
    refine e_end ?_
    refine renew [(1, (Enc.enc (set_2 : List Int))), (3, (.ref (.bx 3) 0 [] (.agg [(.int .i64 g_1.1), (Enc.enc (g_1.2 : List (Int × Int)))]))), (6, (.sl .nl (Enc.shp Int) 0 [])), (7, (Enc.enc (out_129 : List Int))), (8, (.int .i64 round_130)), (16, (.bool (decide (round_130 < (set_2.length : Int)))))] ⟨h1, h3, h6, h7, h8, rfl⟩ ?_
    rintro s ⟨h1, h3, h6, h7, h8, h16⟩
    refine .nsq ?_
    refine run_cond (t := decide (round_130 < (set_2.length : Int))) h16 h (fun h => ?_) (fun h => ?_)
    · refine .skip ?_
      refine .nsq ?_
      refine .seq ?_
      refine .block ?_
      refine .seq ?_
      refine run_reg ?_
      refine e_end ?_
      refine g_v0 (.int .i64 0) rfl rfl ?_
      refine g_end ?_
      refine e_end ?_
      refine renew [(1, (Enc.enc (set_2 : List Int))), (3, (.ref (.bx 3) 0 [] (.agg [(.int .i64 g_1.1), (Enc.enc (g_1.2 : List (Int × Int)))]))), (6, (.sl .nl (Enc.shp Int) 0 [])), (7, (Enc.enc (out_129 : List Int))), (8, (.int .i64 round_130)), (9, (.int .i64 0))] ⟨h1, h3, h6, h7, h8, rfl⟩ ?_
      rintro s ⟨h1, h3, h6, h7, h8, h9⟩
      refine .nsq ?_
      refine .block ?_
      refine .loop ?_
      exact t_f121_l2 H set_2 g_1 round_130 (s_l2Reach_l3 F set_2 g_1 k) ih F out_129 0 _ ⟨h1, h3, h6, h7, h8, h9⟩ h
    · refine .exit ?_
      refine .esq ?_
      refine .elp ?_
      refine .ebk ?_
      refine .nsq ?_
      refine .seq ?_
      refine run_reg ?_
      refine e_end ?_
      refine g_v1 (t := 7) (u := (Enc.enc (out_129 : List Int))) (Enc.enc (out_129 : List Int)) h7 rfl rfl ?_
      refine g_v1 (t := 56) (u := (Enc.enc (out_129 : List Int))) (Enc.enc (out_129 : List Int)) rfl rfl rfl ?_
      refine g_end ?_
      refine e_end ?_
      refine renew [(6, (Enc.enc (out_129 : List Int)))] rfl ?_
      rintro s h6
      refine .nsq ?_
      refine .ret ?_
      have hr := Option.some.inj h
      subst hr
      exact rrA (res_tmp h6) (fin_ret1 (fin_enc (x := (out_129 : (List Int)))))
def s_l2Reach (F : Nat) (g_1 : (Int × (List (Int × Int)))) (set_2 : (List Int)) (x_3 : Int) : Option (List Int) :=
  s_l2Reach_l3 F set_2 g_1 F [x_3] 0
theorem t121 (H : H121 D σ F) (g_1 : (Int × (List (Int × Int)))) (set_2 : (List Int)) (x_3 : Int) (s : Nat → V) (hs : Facts [(0, (.agg [(.int .i64 g_1.1), (Enc.enc (g_1.2 : List (Int × Int)))])), (1, (Enc.enc (set_2 : List Int))), (2, (.int .i64 x_3))] s) (h : s_l2Reach F g_1 set_2 x_3 = some r) : Run D σ (R121 r) (.run A121 []) s := by
  unfold s_l2Reach at h
  obtain ⟨h0, h1, h2⟩ := hs
  refine .seq ?_
  refine run_reg ?_
  refine e_clr ?_
  refine e_end ?_
  refine g_box (.agg [(.int .i64 g_1.1), (Enc.enc (g_1.2 : List (Int × Int)))]) (rd_of (keep_clear (s := s) (pk := [3]) h0 rfl (map_agg (maps_cons rfl (maps_cons (Enc.map_enc _ (g_1.2 : List (Int × Int))) maps_nil)))) rfl) (gone_clear (s := s) (pk := [3]) (t := 3) rfl) rfl ?_
  refine g_v0 (.sl .nl (Enc.shp Int) 0 []) rfl rfl ?_
  refine g_end ?_
  refine e_end ?_
  refine renew [(1, (Enc.enc (set_2 : List Int))), (2, (.int .i64 x_3)), (3, (.ref (.bx 3) 0 [] (.agg [(.int .i64 g_1.1), (Enc.enc (g_1.2 : List (Int × Int)))]))), (6, (.sl .nl (Enc.shp Int) 0 []))] ⟨(keep_clear (s := s) (pk := [3]) h1 rfl (Enc.map_enc _ (set_2 : List Int))), (keep_clear (s := s) (pk := [3]) h2 rfl rfl), rfl, rfl⟩ ?_
  rintro s ⟨h1, h2, h3, h6⟩
  refine .nsq ?_
  refine .seq ?_
  refine run_reg ?_
  refine e_clr ?_
  refine e_end ?_
  refine g_v1 (t := 2) (u := (.int .i64 x_3)) (.int .i64 x_3) (keep_clear (s := s) (pk := [12]) h2 rfl rfl) rfl rfl ?_
  refine g_litL [(11, (.int .i64 x_3))] [Enc.enc (x_3 : Int)] rfl rfl rfl (gone_clear (s := s) (pk := [12]) (t := 12) rfl) ?_
  refine g_v1 (t := 12) (u := (encO (.at 12 []) (.of ([x_3] : List Int)))) (encO (.at 12 []) (.of ([x_3] : List Int))) rfl rfl rfl ?_
  refine g_end ?_
  refine e_home (r := 12) (x := 7) (v := (encO (.at 12 []) (.of ([x_3] : List Int)))) (by exact rfl) rfl (fun s_3 hg_3 => ?_)
  refine e_frz (x := 7) (v := (encO (.at 7 []) (.of ([x_3] : List Int)))) [(.at 7 [])] (by exact (hg_3 7 (encO (.at 12 []) (.of ([x_3] : List Int))) (encO (.at 7 []) (.of ([x_3] : List Int))) rfl (map_encO (r := 12) (p := []) rfl rfl))) toks_ownL (fun s_4 hg_4 => ?_)
  refine e_end ?_
  refine renew [(1, (Enc.enc (set_2 : List Int))), (3, (.ref (.bx 3) 0 [] (.agg [(.int .i64 g_1.1), (Enc.enc (g_1.2 : List (Int × Int)))]))), (6, (.sl .nl (Enc.shp Int) 0 [])), (7, (Enc.enc ([x_3] : List Int)))] ⟨(hg_4 1 (Enc.enc (set_2 : List Int)) (Enc.enc (set_2 : List Int)) (hg_3 1 (Enc.enc (set_2 : List Int)) (Enc.enc (set_2 : List Int)) (keep_clear (s := s) (pk := [12]) h1 rfl (Enc.map_enc _ (set_2 : List Int))) (Enc.map_enc _ (set_2 : List Int))) (Enc.frz_enc _ (set_2 : List Int))), (hg_4 3 (.ref (.bx 3) 0 [] (.agg [(.int .i64 g_1.1), (Enc.enc (g_1.2 : List (Int × Int)))])) (.ref (.bx 3) 0 [] (.agg [(.int .i64 g_1.1), (Enc.enc (g_1.2 : List (Int × Int)))])) (hg_3 3 (.ref (.bx 3) 0 [] (.agg [(.int .i64 g_1.1), (Enc.enc (g_1.2 : List (Int × Int)))])) (.ref (.bx 3) 0 [] (.agg [(.int .i64 g_1.1), (Enc.enc (g_1.2 : List (Int × Int)))])) (keep_clear (s := s) (pk := [12]) h3 rfl (map_bx rfl (map_agg (maps_cons rfl (maps_cons (Enc.map_enc _ (g_1.2 : List (Int × Int))) maps_nil))))) (map_bx rfl (map_agg (maps_cons rfl (maps_cons (Enc.map_enc _ (g_1.2 : List (Int × Int))) maps_nil))))) (frz_ref_ne rfl (frz_agg (frzs_cons rfl (frzs_cons (Enc.frz_enc _ (g_1.2 : List (Int × Int))) rfl))) rfl)), (hg_4 6 (.sl .nl (Enc.shp Int) 0 []) (.sl .nl (Enc.shp Int) 0 []) (hg_3 6 (.sl .nl (Enc.shp Int) 0 []) (.sl .nl (Enc.shp Int) 0 []) (keep_clear (s := s) (pk := [12]) h6 rfl rfl) rfl) rfl), (hg_4 7 (encO (.at 7 []) (.of ([x_3] : List Int))) (Enc.enc ([x_3] : List Int)) (hg_3 7 (encO (.at 12 []) (.of ([x_3] : List Int))) (encO (.at 7 []) (.of ([x_3] : List Int))) rfl (map_encO (r := 12) (p := []) rfl rfl)) frz_own)⟩ ?_
  rintro s ⟨h1, h3, h6, h7⟩
  refine .nsq ?_
  refine .seq ?_
  refine .seq ?_
  refine run_reg ?_
  refine e_end ?_
  refine g_v0 (.int .i64 0) rfl rfl ?_
  refine g_end ?_
  refine e_end ?_
  refine renew [(1, (Enc.enc (set_2 : List Int))), (3, (.ref (.bx 3) 0 [] (.agg [(.int .i64 g_1.1), (Enc.enc (g_1.2 : List (Int × Int)))]))), (6, (.sl .nl (Enc.shp Int) 0 [])), (7, (Enc.enc ([x_3] : List Int))), (8, (.int .i64 0))] ⟨h1, h3, h6, h7, rfl⟩ ?_
  rintro s ⟨h1, h3, h6, h7, h8⟩
  refine .nsq ?_
  refine .block ?_
  refine .loop ?_
  exact t_f121_l3 H set_2 g_1 F [x_3] 0 _ ⟨h1, h3, h6, h7, h8⟩ h
end
def e121 (F : Nat) : Ent := ⟨121, da (fun (x : ((Int × (List (Int × Int))) × (List Int) × Int × Unit)) => s_l2Reach F x.1 x.2.1 x.2.2.1) (fun (r : (List Int)) => (Enc.enc (r : (List Int)))), 0, true, selF []⟩
theorem p121 {F : Nat} {x0 : (Int × (List (Int × Int)))} {x1 : (List Int)} {x2 : Int} {r : (List Int)} (h : s_l2Reach F x0 x1 x2 = some r) : (e121 F).den [Enc.enc x0, Enc.enc x1, Enc.enc x2] = some (Enc.enc (r : (List Int))) := da_put (f := fun (x : ((Int × (List (Int × Int))) × (List Int) × Int × Unit)) => s_l2Reach F x.1 x.2.1 x.2.2.1) (t := fun (r : (List Int)) => (Enc.enc (r : (List Int)))) (x0, x1, x2, ()) h
theorem o121 {D : Den} {σ : Sig} {F : Nat} (hF : Fits2 Try.prog D σ) (H : H121 D σ F) : (e121 F).Ok Try.prog := by
  refine ⟨fun args r h => ?_, ⟨Try.f121, Try.func121, rfl, rfl⟩⟩
  obtain ⟨⟨x0, x1, x2, _⟩, y, rfl, hy, rfl⟩ := da_open h
  exact contract_run hF (by kernel_rfl) Try.func121 rfl c121 (show 3 ≤ Try.f121.ntmps by decide) (t121 H x0 x1 x2 _ ⟨rfl, rfl, rfl⟩ hy)
/- loop.example/g01109/spec.l6Spread -/
def A111_2 : AC := (AC.cond (O.t 18) AC.skip (AC.exit 0))
def A111_4 : AC := (AC.cond (O.t 24) (AC.reg [.clr [27, 28]] [(I.mk (some 25) none false (X.v (A.mov (O.t 7)))), (I.mk (some 26) none false (X.v (A.mov (O.t 9)))), (I.mk (some 27) none false (X.lit (V.int IntKind.i64 (Int.ofNat 0)) 1 [(0, 0, (O.t 26))])), (I.mk (some 28) none false (X.app Sh.s (O.t 25) (O.t 27))), (I.mk (some 7) none false (X.v (A.mov (O.t 28))))] [.home 28 7]) AC.skip)
def A111_5 : AC := (AC.reg [] [(I.mk (some 19) none false (X.v (A.mov (O.t 9)))), (I.mk (some 20) none false (X.v (A.bin BinOp.add (O.t 19) (O.k (V.int IntKind.i64 (Int.ofNat 1)))))), (I.mk (some 9) none false (X.v (A.mov (O.t 20))))] [])
def A111_3 : AC := (AC.seq (AC.block 1 (AC.seq (AC.reg [] [(I.mk (some 21) none false (X.v (A.mov (O.t 1)))), (I.mk (some 22) none false (X.v (A.mov (O.t 9)))), (I.mk (some 23) none false (X.call (O.k (V.fn 45 [] [])) [(O.t 21), (O.t 22)])), (I.mk (some 24) none false (X.v (A.un UnOp.not (O.t 23))))] []) A111_4)) A111_5)
def A111_1 : AC := (AC.seq (AC.seq (AC.reg [] [(I.mk (some 15) none false (X.v (A.mov (O.t 9)))), (I.mk (some 16) none false (X.v (A.fld (O.t 3) 0 0))), (I.mk (some 17) none false (X.v (A.load Sh.s (O.t 16)))), (I.mk (some 18) none false (X.v (A.bin BinOp.lss (O.t 15) (O.t 17))))] []) A111_2) A111_3)
def A111_9 : AC := (AC.cond (O.t 32) AC.skip (AC.exit 2))
def A111_11 : AC := (AC.cond (O.t 40) (AC.exit 3) AC.skip)
def A111_16 : AC := (AC.cond (O.t 51) AC.skip (AC.exit 4))
def A111_18 : AC := (AC.reg [] [(I.mk (some 52) none false (X.v (A.mov (O.t 12)))), (I.mk (some 53) none false (X.v (A.bin BinOp.add (O.t 52) (O.k (V.int IntKind.i64 (Int.ofNat 1)))))), (I.mk (some 12) none false (X.v (A.mov (O.t 53))))] [])
def A111_17 : AC := (AC.seq (AC.block 5 (AC.reg [.frz 8] [(I.mk (some 54) none false (X.v (A.mov (O.t 8)))), (I.mk (some 55) none false (X.v (A.mov (O.t 11)))), (I.mk (some 56) none false (X.v (A.mov (O.t 12)))), (I.mk (some 57) none false (X.v (A.idx (O.t 55) (O.t 56) 1))), (I.mk (some 58) none false (X.v (A.load Sh.s (O.t 57)))), (I.mk (some 59) none false (X.call (O.k (V.fn 110 [] [])) [(O.t 54), (O.t 58)])), (I.mk (some 8) none false (X.v (A.mov (O.t 59))))] [])) A111_18)
def A111_15 : AC := (AC.seq (AC.seq (AC.reg [] [(I.mk (some 48) none false (X.v (A.mov (O.t 12)))), (I.mk (some 49) none false (X.v (A.mov (O.t 11)))), (I.mk (some 50) none false (X.v (A.len (O.t 49)))), (I.mk (some 51) none false (X.v (A.bin BinOp.lss (O.t 48) (O.t 50))))] []) A111_16) A111_17)
def A111_14 : AC := (AC.block 4 (AC.loop A111_15))
def A111_13 : AC := (AC.seq (AC.reg [] [(I.mk (some 12) none false (X.v (A.mov (O.k (V.int IntKind.i64 (Int.ofNat 0))))))] []) A111_14)
def A111_12 : AC := (AC.seq (AC.reg [.frz 7] [(I.mk (some 41) none false (X.v (A.load (Sh.ag [Sh.s, Sh.p]) (O.t 3)))), (I.mk (some 42) none false (X.v (A.mov (O.t 7)))), (I.mk (some 43) none false (X.v (A.mov (O.t 2)))), (I.mk (some 44) none false (X.v (A.mov (O.t 10)))), (I.mk (some 45) none false (X.v (A.idx (O.t 43) (O.t 44) 1))), (I.mk (some 46) none false (X.v (A.load Sh.s (O.t 45)))), (I.mk (some 47) none false (X.call (O.k (V.fn 121 [] [])) [(O.t 41), (O.t 42), (O.t 46)])), (I.mk (some 11) none false (X.v (A.mov (O.t 47))))] []) A111_13)
def A111_19 : AC := (AC.reg [] [(I.mk (some 33) none false (X.v (A.mov (O.t 10)))), (I.mk (some 34) none false (X.v (A.bin BinOp.add (O.t 33) (O.k (V.int IntKind.i64 (Int.ofNat 1)))))), (I.mk (some 10) none false (X.v (A.mov (O.t 34))))] [])
def A111_10 : AC := (AC.seq (AC.block 3 (AC.seq (AC.seq (AC.reg [] [(I.mk (some 35) none false (X.v (A.mov (O.t 1)))), (I.mk (some 36) none false (X.v (A.mov (O.t 2)))), (I.mk (some 37) none false (X.v (A.mov (O.t 10)))), (I.mk (some 38) none false (X.v (A.idx (O.t 36) (O.t 37) 1))), (I.mk (some 39) none false (X.v (A.load Sh.s (O.t 38)))), (I.mk (some 40) none false (X.call (O.k (V.fn 45 [] [])) [(O.t 35), (O.t 39)]))] []) A111_11) A111_12)) A111_19)
def A111_8 : AC := (AC.seq (AC.seq (AC.reg [] [(I.mk (some 29) none false (X.v (A.mov (O.t 10)))), (I.mk (some 30) none false (X.v (A.mov (O.t 2)))), (I.mk (some 31) none false (X.v (A.len (O.t 30)))), (I.mk (some 32) none false (X.v (A.bin BinOp.lss (O.t 29) (O.t 31))))] []) A111_9) A111_10)
def A111_7 : AC := (AC.block 2 (AC.loop A111_8))
def A111_20 : AC := (AC.seq (AC.reg [] [(I.mk (some 60) none false (X.v (A.mov (O.t 8)))), (I.mk (some 6) none false (X.v (A.mov (O.t 60))))] []) AC.ret)
def A111_6 : AC := (AC.seq (AC.seq (AC.reg [] [(I.mk (some 10) none false (X.v (A.mov (O.k (V.int IntKind.i64 (Int.ofNat 0))))))] [.frz 7, .frz 8]) A111_7) A111_20)
def A111_23 : AC := (AC.block 0 (AC.loop A111_1))
def A111_22 : AC := (AC.seq (AC.seq (AC.reg [] [(I.mk (some 9) none false (X.v (A.mov (O.k (V.int IntKind.i64 (Int.ofNat 0))))))] []) A111_23) A111_6)
def A111_21 : AC := (AC.seq (AC.reg [.clr [13, 14]] [(I.mk (some 13) none false (X.lit (V.int IntKind.i64 (Int.ofNat 0)) 0 [])), (I.mk (some 14) none false (X.lit (V.int IntKind.i64 (Int.ofNat 0)) 0 [])), (I.mk (some 7) none false (X.v (A.mov (O.t 13)))), (I.mk (some 8) none false (X.v (A.mov (O.t 14))))] [.home 13 7, .home 14 8]) A111_22)
def A111 : AC := (AC.seq (AC.reg [.clr [3]] [(I.mk (some 3) none false (X.box (O.t 0))), (I.mk (some 6) none false (X.v (A.mov (O.k (V.sl Tok.nl Sh.s 0 [])))))] []) A111_21)
def an111 : List An := [{ id := 0, pre := [.clr [3]], ep := [], lin := [], sp := [] }, { id := 1, pre := [.clr [13, 14]], ep := [.home 13 7, .home 14 8], lin := [], sp := [] }, { id := 6, pre := [.clr [27, 28]], ep := [.home 28 7], lin := [], sp := [] }, { id := 7, pre := [], ep := [.frz 7, .frz 8], lin := [], sp := [] }, { id := 11, pre := [.frz 7], ep := [], lin := [], sp := [] }, { id := 15, pre := [.frz 8], ep := [], lin := [], sp := [] }]
theorem c111 : cC Try.prog Try.f111.ntmps an111 (Try.f111.body.getD .skip) = some A111 := by kernel_rfl
structure H111 (D : Den) (σ : Sig) (F : Nat) : Prop where
  c45 : ∀ (x0 : (List Int)) (x1 : Int) r, s_l1Has F x0 x1 = some r → D 45 [Enc.enc x0, Enc.enc x1] = some (Enc.enc (r : Bool))
  g45 : σ 45 = some (0, false)
  c121 : ∀ (x0 : (Int × (List (Int × Int)))) (x1 : (List Int)) (x2 : Int) r, s_l2Reach F x0 x1 x2 = some r → D 121 [Enc.enc x0, Enc.enc x1, Enc.enc x2] = some (Enc.enc (r : (List Int)))
  g121 : σ 121 = some (0, true)
  c110 : ∀ (x0 : (List Int)) (x1 : Int) r, s_l1Put F x0 x1 = some r → D 110 [Enc.enc x0, Enc.enc x1] = some (Enc.enc (r : (List Int)))
  g110 : σ 110 = some (0, true)
abbrev R111 (r : (List Int)) : (Nat → V) → Prop := RR Try.prog [.tmp 6] 0 true (Enc.enc (r : (List Int)))
section
variable {D : Den} {σ : Sig} {F : Nat} {r : (List Int)}
def s_l6Spread_j1 (F : Nat) (searchers_2 : (List Int)) (before_3 : (List Int)) (g_1 : (Int × (List (Int × Int)))) (x_9 : Int) (c1 : (List Int) → Int → Option (List Int)) (free_16 : (List Int)) : Option (List Int) :=
  c1 free_16 (w64 (x_9 + 1))
theorem t_f111_j1 (H : H111 D σ F) (searchers_2 : (List Int)) (before_3 : (List Int)) (g_1 : (Int × (List (Int × Int)))) (x_9 : Int) (c1 : (List Int) → Int → Option (List Int)) (Hc1 : ∀ (free_8 : (List Int)) (x_9 : Int) (s : Nat → V), Facts [(1, (Enc.enc (searchers_2 : List Int))), (2, (Enc.enc (before_3 : List Int))), (3, (.ref (.bx 3) 0 [] (.agg [(.int .i64 g_1.1), (Enc.enc (g_1.2 : List (Int × Int)))]))), (6, (.sl .nl (Enc.shp Int) 0 [])), (7, (encO (.at 7 []) (.of (free_8 : List Int)))), (8, (encO (.at 8 []) (.of ([] : List Int)))), (9, (.int .i64 x_9))] s → c1 free_8 x_9 = some r → Run D σ (R111 r) (.run A111_1 [.lp A111_1, .bk 0, .sq A111_6]) s) (free_16 : (List Int)) (s : Nat → V) (hs : Facts [(1, (Enc.enc (searchers_2 : List Int))), (2, (Enc.enc (before_3 : List Int))), (3, (.ref (.bx 3) 0 [] (.agg [(.int .i64 g_1.1), (Enc.enc (g_1.2 : List (Int × Int)))]))), (6, (.sl .nl (Enc.shp Int) 0 [])), (7, (encO (.at 7 []) (.of (free_16 : List Int)))), (8, (encO (.at 8 []) (.of ([] : List Int)))), (9, (.int .i64 x_9))] s) (h : s_l6Spread_j1 F searchers_2 before_3 g_1 x_9 c1 free_16 = some r) : Run D σ (R111 r) (.nrm [.bk 1, .sq A111_5, .lp A111_1, .bk 0, .sq A111_6]) s := by
  unfold s_l6Spread_j1 at h
  obtain ⟨h1, h2, h3, h6, h7, h8, h9⟩ := hs
  refine .nbk ?_
  refine .nsq ?_
  refine run_reg ?_
  refine e_end ?_
  refine g_v1 (t := 9) (u := (.int .i64 x_9)) (.int .i64 x_9) h9 rfl rfl ?_
  refine g_v1 (t := 19) (u := (.int .i64 x_9)) (.int .i64 (w64 (x_9 + 1))) rfl rfl rfl ?_
  refine g_v1 (t := 20) (u := (.int .i64 (w64 (x_9 + 1)))) (.int .i64 (w64 (x_9 + 1))) rfl rfl rfl ?_
  refine g_end ?_
  refine e_end ?_
  refine renew [(1, (Enc.enc (searchers_2 : List Int))), (2, (Enc.enc (before_3 : List Int))), (3, (.ref (.bx 3) 0 [] (.agg [(.int .i64 g_1.1), (Enc.enc (g_1.2 : List (Int × Int)))]))), (6, (.sl .nl (Enc.shp Int) 0 [])), (7, (encO (.at 7 []) (.of (free_16 : List Int)))), (8, (encO (.at 8 []) (.of ([] : List Int)))), (9, (.int .i64 (w64 (x_9 + 1))))] ⟨h1, h2, h3, h6, h7, h8, rfl⟩ ?_
  rintro s ⟨h1, h2, h3, h6, h7, h8, h9⟩
  refine .nlp ?_
  exact Hc1 free_16 (w64 (x_9 + 1)) _ ⟨h1, h2, h3, h6, h7, h8, h9⟩ h
def s_l6Spread_l1 (F : Nat) (searchers_2 : (List Int)) (before_3 : (List Int)) (g_1 : (Int × (List (Int × Int)))) (free_8 : (List Int)) (i_31 : Int) (r_47 : (List Int)) (c2 : (List Int) → Int → Option (List Int)) : Nat → (List Int) → Int → Option (List Int)
  | 0, _, _ => none
  | k + 1, out_50, k_51 =>
    bif decide (k_51 < (r_47.length : Int)) then
      (idx r_47 k_51).bind fun e_54 =>
      (s_l1Put F out_50 e_54).bind fun r_55 =>
      (s_l6Spread_l1 F searchers_2 before_3 g_1 free_8 i_31 r_47 c2 k) r_55 (w64 (k_51 + 1))
    else
      c2 out_50 (w64 (i_31 + 1))
theorem t_f111_l1 (H : H111 D σ F) (searchers_2 : (List Int)) (before_3 : (List Int)) (g_1 : (Int × (List (Int × Int)))) (free_8 : (List Int)) (i_31 : Int) (r_47 : (List Int)) (c2 : (List Int) → Int → Option (List Int)) (Hc2 : ∀ (out_30 : (List Int)) (i_31 : Int) (s : Nat → V), Facts [(1, (Enc.enc (searchers_2 : List Int))), (2, (Enc.enc (before_3 : List Int))), (3, (.ref (.bx 3) 0 [] (.agg [(.int .i64 g_1.1), (Enc.enc (g_1.2 : List (Int × Int)))]))), (6, (.sl .nl (Enc.shp Int) 0 [])), (7, (Enc.enc (free_8 : List Int))), (8, (Enc.enc (out_30 : List Int))), (10, (.int .i64 i_31))] s → c2 out_30 i_31 = some r → Run D σ (R111 r) (.run A111_8 [.lp A111_8, .bk 2, .sq A111_20]) s) : ∀ (k : Nat) (out_50 : (List Int)) (k_51 : Int) (s : Nat → V), Facts [(1, (Enc.enc (searchers_2 : List Int))), (2, (Enc.enc (before_3 : List Int))), (3, (.ref (.bx 3) 0 [] (.agg [(.int .i64 g_1.1), (Enc.enc (g_1.2 : List (Int × Int)))]))), (6, (.sl .nl (Enc.shp Int) 0 [])), (7, (Enc.enc (free_8 : List Int))), (8, (Enc.enc (out_50 : List Int))), (10, (.int .i64 i_31)), (11, (Enc.enc (r_47 : List Int))), (12, (.int .i64 k_51))] s → s_l6Spread_l1 F searchers_2 before_3 g_1 free_8 i_31 r_47 c2 k out_50 k_51 = some r → Run D σ (R111 r) (.run A111_15 [.lp A111_15, .bk 4, .bk 3, .sq A111_19, .lp A111_8, .bk 2, .sq A111_20]) s := by
  intro k
  induction k with
  | zero => intro out_50 k_51 s _ h; exact nomatch (h : (none : Option _) = some r)
  | succ k ih =>
    intro out_50 k_51 s hs h
    rw [s_l6Spread_l1] at h
    obtain ⟨h1, h2, h3, h6, h7, h8, h10, h11, h12⟩ := hs
    refine .seq ?_
    refine .seq ?_
    refine run_reg ?_
    refine e_end ?_
    refine g_v1 (t := 12) (u := (.int .i64 k_51)) (.int .i64 k_51) h12 rfl rfl ?_
    refine g_v1 (t := 11) (u := (Enc.enc (r_47 : List Int))) (Enc.enc (r_47 : List Int)) h11 rfl rfl ?_
    refine g_v (.int .i64 (r_47.length : Int)) (ev_len (xs := r_47) rfl) ?_
    refine g_v2 (t1 := 48) (t2 := 50) (u1 := (.int .i64 k_51)) (u2 := (.int .i64 (r_47.length : Int))) (.bool (decide (k_51 < (r_47.length : Int)))) rfl rfl rfl rfl ?_
    refine g_end ?_
    refine e_end ?_
    refine renew [(1, (Enc.enc (searchers_2 : List Int))), (2, (Enc.enc (before_3 : List Int))), (3, (.ref (.bx 3) 0 [] (.agg [(.int .i64 g_1.1), (Enc.enc (g_1.2 : List (Int × Int)))]))), (6, (.sl .nl (Enc.shp Int) 0 [])), (7, (Enc.enc (free_8 : List Int))), (8, (Enc.enc (out_50 : List Int))), (10, (.int .i64 i_31)), (11, (Enc.enc (r_47 : List Int))), (12, (.int .i64 k_51)), (51, (.bool (decide (k_51 < (r_47.length : Int)))))] ⟨h1, h2, h3, h6, h7, h8, h10, h11, h12, rfl⟩ ?_
    rintro s ⟨h1, h2, h3, h6, h7, h8, h10, h11, h12, h51⟩
    refine .nsq ?_
    refine run_cond (t := decide (k_51 < (r_47.length : Int))) h51 h (fun h => ?_) (fun h => ?_)
    · refine .skip ?_
      refine .nsq ?_
      refine .seq ?_
      refine .block ?_
      refine run_reg ?_
      refine e_frz (x := 8) (v := (Enc.enc (out_50 : List Int))) [] (by exact h8) (Enc.toks_enc (out_50 : List Int)) (fun s_36 hg_36 => ?_)
      refine e_end ?_
      refine g_v1 (t := 8) (u := (Enc.enc (out_50 : List Int))) (Enc.enc (out_50 : List Int)) (hg_36 8 (Enc.enc (out_50 : List Int)) (Enc.enc (out_50 : List Int)) h8 (frz_none _)) rfl rfl ?_
      refine g_v1 (t := 11) (u := (Enc.enc (r_47 : List Int))) (Enc.enc (r_47 : List Int)) (hg_36 11 (Enc.enc (r_47 : List Int)) (Enc.enc (r_47 : List Int)) h11 (frz_none _)) rfl rfl ?_
      refine g_v1 (t := 12) (u := (.int .i64 k_51)) (.int .i64 k_51) (hg_36 12 (.int .i64 k_51) (.int .i64 k_51) h12 (frz_none _)) rfl rfl ?_
      obtain ⟨e_54, E_e_54, h⟩ := bind_some h
      refine g_v (.ref .sh 0 [] (.int .i64 e_54)) (ev_idx (t := .sh) (lo := 0) (xs := r_47) rfl rfl E_e_54 rfl rfl) ?_
      refine g_v1 (t := 57) (u := (.ref .sh 0 [] (.int .i64 e_54))) (.int .i64 e_54) rfl rfl rfl ?_
      obtain ⟨r_55, E_r_55, h⟩ := bind_some h
      refine g_call (m := 0) (al := true) (r := (Enc.enc (r_55 : (List Int)))) [Enc.enc (out_50 : (List Int)), Enc.enc (e_54 : Int)] (ta_cons (v := (Enc.enc (out_50 : List Int))) rfl rfl (Enc.erase_enc (out_50 : (List Int))) (ta_cons (v := (.int .i64 e_54)) rfl rfl rfl ta_nil)) (H.c110 _ _ _ E_r_55) H.g110 (hal_of (ht_cons (v := (Enc.enc (out_50 : List Int))) rfl rfl rfl (ht_cons (v := (.int .i64 e_54)) rfl rfl rfl ht_nil))) rfl rfl rfl ?_
      refine g_v1 (t := 59) (u := (Enc.enc (r_55 : List Int))) (Enc.enc (r_55 : List Int)) rfl rfl rfl ?_
      refine g_end ?_
      refine e_end ?_
      refine renew [(1, (Enc.enc (searchers_2 : List Int))), (2, (Enc.enc (before_3 : List Int))), (3, (.ref (.bx 3) 0 [] (.agg [(.int .i64 g_1.1), (Enc.enc (g_1.2 : List (Int × Int)))]))), (6, (.sl .nl (Enc.shp Int) 0 [])), (7, (Enc.enc (free_8 : List Int))), (8, (Enc.enc (r_55 : List Int))), (10, (.int .i64 i_31)), (11, (Enc.enc (r_47 : List Int))), (12, (.int .i64 k_51))] ⟨(hg_36 1 (Enc.enc (searchers_2 : List Int)) (Enc.enc (searchers_2 : List Int)) h1 (frz_none _)), (hg_36 2 (Enc.enc (before_3 : List Int)) (Enc.enc (before_3 : List Int)) h2 (frz_none _)), (hg_36 3 (.ref (.bx 3) 0 [] (.agg [(.int .i64 g_1.1), (Enc.enc (g_1.2 : List (Int × Int)))])) (.ref (.bx 3) 0 [] (.agg [(.int .i64 g_1.1), (Enc.enc (g_1.2 : List (Int × Int)))])) h3 (frz_none _)), (hg_36 6 (.sl .nl (Enc.shp Int) 0 []) (.sl .nl (Enc.shp Int) 0 []) h6 (frz_none _)), (hg_36 7 (Enc.enc (free_8 : List Int)) (Enc.enc (free_8 : List Int)) h7 (frz_none _)), rfl, (hg_36 10 (.int .i64 i_31) (.int .i64 i_31) h10 (frz_none _)), (hg_36 11 (Enc.enc (r_47 : List Int)) (Enc.enc (r_47 : List Int)) h11 (frz_none _)), (hg_36 12 (.int .i64 k_51) (.int .i64 k_51) h12 (frz_none _))⟩ ?_
      rintro s ⟨h1, h2, h3, h6, h7, h8, h10, h11, h12⟩
      refine .nbk ?_
      refine .nsq ?_
      refine run_reg ?_
      refine e_end ?_
      refine g_v1 (t := 12) (u := (.int .i64 k_51)) (.int .i64 k_51) h12 rfl rfl ?_
      refine g_v1 (t := 52) (u := (.int .i64 k_51)) (.int .i64 (w64 (k_51 + 1))) rfl rfl rfl ?_
      refine g_v1 (t := 53) (u := (.int .i64 (w64 (k_51 + 1)))) (.int .i64 (w64 (k_51 + 1))) rfl rfl rfl ?_
      refine g_end ?_
      refine e_end ?_
      refine renew [(1, (Enc.enc (searchers_2 : List Int))), (2, (Enc.enc (before_3 : List Int))), (3, (.ref (.bx 3) 0 [] (.agg [(.int .i64 g_1.1), (Enc.enc (g_1.2 : List (Int × Int)))]))), (6, (.sl .nl (Enc.shp Int) 0 [])), (7, (Enc.enc (free_8 : List Int))), (8, (Enc.enc (r_55 : List Int))), (10, (.int .i64 i_31)), (11, (Enc.enc (r_47 : List Int))), (12, (.int .i64 (w64 (k_51 + 1))))] ⟨h1, h2, h3, h6, h7, h8, h10, h11, rfl⟩ ?_
      rintro s ⟨h1, h2, h3, h6, h7, h8, h10, h11, h12⟩
      refine .nlp ?_
      exact ih r_55 (w64 (k_51 + 1)) _ ⟨h1, h2, h3, h6, h7, h8, h10, h11, h12⟩ h
    · refine .exit ?_
      refine .esq ?_
      refine .elp ?_
      refine .ebk ?_
      refine .nbk ?_
      refine .nsq ?_
      refine run_reg ?_
      refine e_end ?_
      refine g_v1 (t := 10) (u := (.int .i64 i_31)) (.int .i64 i_31) h10 rfl rfl ?_
      refine g_v1 (t := 33) (u := (.int .i64 i_31)) (.int .i64 (w64 (i_31 + 1))) rfl rfl rfl ?_
      refine g_v1 (t := 34) (u := (.int .i64 (w64 (i_31 + 1)))) (.int .i64 (w64 (i_31 + 1))) rfl rfl rfl ?_
      refine g_end ?_
      refine e_end ?_
      refine renew [(1, (Enc.enc (searchers_2 : List Int))), (2, (Enc.enc (before_3 : List Int))), (3, (.ref (.bx 3) 0 [] (.agg [(.int .i64 g_1.1), (Enc.enc (g_1.2 : List (Int × Int)))]))), (6, (.sl .nl (Enc.shp Int) 0 [])), (7, (Enc.enc (free_8 : List Int))), (8, (Enc.enc (out_50 : List Int))), (10, (.int .i64 (w64 (i_31 + 1))))] ⟨h1, h2, h3, h6, h7, h8, rfl⟩ ?_
      rintro s ⟨h1, h2, h3, h6, h7, h8, h10⟩
      refine .nlp ?_
      exact Hc2 out_50 (w64 (i_31 + 1)) _ ⟨h1, h2, h3, h6, h7, h8, h10⟩ h
def s_l6Spread_l2 (F : Nat) (searchers_2 : (List Int)) (before_3 : (List Int)) (g_1 : (Int × (List (Int × Int)))) (free_8 : (List Int))  : Nat → (List Int) → Int → Option (List Int)
  | 0, _, _ => none
  | k + 1, out_30, i_31 =>
    bif decide (i_31 < (before_3.length : Int)) then
      (idx before_3 i_31).bind fun e_44 =>
      (s_l1Has F searchers_2 e_44).bind fun r_45 =>
      bif r_45 then
        (s_l6Spread_l2 F searchers_2 before_3 g_1 free_8 k) out_30 (w64 (i_31 + 1))
      else
        (idx before_3 i_31).bind fun e_46 =>
        (s_l2Reach F g_1 free_8 e_46).bind fun r_47 =>
        s_l6Spread_l1 F searchers_2 before_3 g_1 free_8 i_31 r_47 (s_l6Spread_l2 F searchers_2 before_3 g_1 free_8 k) F out_30 0
    else
      some out_30
theorem t_f111_l2 (H : H111 D σ F) (searchers_2 : (List Int)) (before_3 : (List Int)) (g_1 : (Int × (List (Int × Int)))) (free_8 : (List Int))  : ∀ (k : Nat) (out_30 : (List Int)) (i_31 : Int) (s : Nat → V), Facts [(1, (Enc.enc (searchers_2 : List Int))), (2, (Enc.enc (before_3 : List Int))), (3, (.ref (.bx 3) 0 [] (.agg [(.int .i64 g_1.1), (Enc.enc (g_1.2 : List (Int × Int)))]))), (6, (.sl .nl (Enc.shp Int) 0 [])), (7, (Enc.enc (free_8 : List Int))), (8, (Enc.enc (out_30 : List Int))), (10, (.int .i64 i_31))] s → s_l6Spread_l2 F searchers_2 before_3 g_1 free_8 k out_30 i_31 = some r → Run D σ (R111 r) (.run A111_8 [.lp A111_8, .bk 2, .sq A111_20]) s := by
  intro k
  induction k with
  | zero => intro out_30 i_31 s _ h; exact nomatch (h : (none : Option _) = some r)
  | succ k ih =>
    intro out_30 i_31 s hs h
    rw [s_l6Spread_l2] at h
    obtain ⟨h1, h2, h3, h6, h7, h8, h10⟩ := hs
    refine .seq ?_
    refine .seq ?_
    refine run_reg ?_
    refine e_end ?_
    refine g_v1 (t := 10) (u := (.int .i64 i_31)) (.int .i64 i_31) h10 rfl rfl ?_
    refine g_v1 (t := 2) (u := (Enc.enc (before_3 : List Int))) (Enc.enc (before_3 : List Int)) h2 rfl rfl ?_
    refine g_v (.int .i64 (before_3.length : Int)) (ev_len (xs := before_3) rfl) ?_
    refine g_v2 (t1 := 29) (t2 := 31) (u1 := (.int .i64 i_31)) (u2 := (.int .i64 (before_3.length : Int))) (.bool (decide (i_31 < (before_3.length : Int)))) rfl rfl rfl rfl ?_
    refine g_end ?_
    refine e_end ?_
    refine renew [(1, (Enc.enc (searchers_2 : List Int))), (2, (Enc.enc (before_3 : List Int))), (3, (.ref (.bx 3) 0 [] (.agg [(.int .i64 g_1.1), (Enc.enc (g_1.2 : List (Int × Int)))]))), (6, (.sl .nl (Enc.shp Int) 0 [])), (7, (Enc.enc (free_8 : List Int))), (8, (Enc.enc (out_30 : List Int))), (10, (.int .i64 i_31)), (32, (.bool (decide (i_31 < (before_3.length : Int)))))] ⟨h1, h2, h3, h6, h7, h8, h10, rfl⟩ ?_
    rintro s ⟨h1, h2, h3, h6, h7, h8, h10, h32⟩
    refine .nsq ?_
    refine run_cond (t := decide (i_31 < (before_3.length : Int))) h32 h (fun h => ?_) (fun h => ?_)
    · refine .skip ?_
      refine .nsq ?_
      refine .seq ?_
      refine .block ?_
      refine .seq ?_
      refine .seq ?_
      refine run_reg ?_
      refine e_end ?_
      refine g_v1 (t := 1) (u := (Enc.enc (searchers_2 : List Int))) (Enc.enc (searchers_2 : List Int)) h1 rfl rfl ?_
      refine g_v1 (t := 2) (u := (Enc.enc (before_3 : List Int))) (Enc.enc (before_3 : List Int)) h2 rfl rfl ?_
      refine g_v1 (t := 10) (u := (.int .i64 i_31)) (.int .i64 i_31) h10 rfl rfl ?_
      obtain ⟨e_44, E_e_44, h⟩ := bind_some h
      refine g_v (.ref .sh 0 [] (.int .i64 e_44)) (ev_idx (t := .sh) (lo := 0) (xs := before_3) rfl rfl E_e_44 rfl rfl) ?_
      refine g_v1 (t := 38) (u := (.ref .sh 0 [] (.int .i64 e_44))) (.int .i64 e_44) rfl rfl rfl ?_
      obtain ⟨r_45, E_r_45, h⟩ := bind_some h
      refine g_call (m := 0) (al := false) (r := (Enc.enc (r_45 : Bool))) [Enc.enc (searchers_2 : (List Int)), Enc.enc (e_44 : Int)] (ta_cons (v := (Enc.enc (searchers_2 : List Int))) rfl rfl (Enc.erase_enc (searchers_2 : (List Int))) (ta_cons (v := (.int .i64 e_44)) rfl rfl rfl ta_nil)) (H.c45 _ _ _ E_r_45) H.g45 rfl rfl rfl rfl ?_
      refine g_end ?_
      refine e_end ?_
      refine renew [(1, (Enc.enc (searchers_2 : List Int))), (2, (Enc.enc (before_3 : List Int))), (3, (.ref (.bx 3) 0 [] (.agg [(.int .i64 g_1.1), (Enc.enc (g_1.2 : List (Int × Int)))]))), (6, (.sl .nl (Enc.shp Int) 0 [])), (7, (Enc.enc (free_8 : List Int))), (8, (Enc.enc (out_30 : List Int))), (10, (.int .i64 i_31)), (40, (.bool r_45))] ⟨h1, h2, h3, h6, h7, h8, h10, rfl⟩ ?_
      rintro s ⟨h1, h2, h3, h6, h7, h8, h10, h40⟩
      refine .nsq ?_
      refine run_cond (t := r_45) h40 h (fun h => ?_) (fun h => ?_)
      · refine .exit ?_
        refine .esq ?_
        refine .ebk ?_
        refine .nsq ?_
        refine run_reg ?_
        refine e_end ?_
        refine g_v1 (t := 10) (u := (.int .i64 i_31)) (.int .i64 i_31) h10 rfl rfl ?_
        refine g_v1 (t := 33) (u := (.int .i64 i_31)) (.int .i64 (w64 (i_31 + 1))) rfl rfl rfl ?_
        refine g_v1 (t := 34) (u := (.int .i64 (w64 (i_31 + 1)))) (.int .i64 (w64 (i_31 + 1))) rfl rfl rfl ?_
        refine g_end ?_
        refine e_end ?_
        refine renew [(1, (Enc.enc (searchers_2 : List Int))), (2, (Enc.enc (before_3 : List Int))), (3, (.ref (.bx 3) 0 [] (.agg [(.int .i64 g_1.1), (Enc.enc (g_1.2 : List (Int × Int)))]))), (6, (.sl .nl (Enc.shp Int) 0 [])), (7, (Enc.enc (free_8 : List Int))), (8, (Enc.enc (out_30 : List Int))), (10, (.int .i64 (w64 (i_31 + 1))))] ⟨h1, h2, h3, h6, h7, h8, rfl⟩ ?_
        rintro s ⟨h1, h2, h3, h6, h7, h8, h10⟩
        refine .nlp ?_
        exact ih out_30 (w64 (i_31 + 1)) _ ⟨h1, h2, h3, h6, h7, h8, h10⟩ h
      · refine .skip ?_
        refine .nsq ?_
        refine .seq ?_
        refine run_reg ?_
        refine e_frz (x := 7) (v := (Enc.enc (free_8 : List Int))) [] (by exact h7) (Enc.toks_enc (free_8 : List Int)) (fun s_33 hg_33 => ?_)
        refine e_end ?_
        refine g_v1 (t := 3) (u := (.ref (.bx 3) 0 [] (.agg [(.int .i64 g_1.1), (Enc.enc (g_1.2 : List (Int × Int)))]))) (.agg [(.int .i64 g_1.1), (Enc.enc (g_1.2 : List (Int × Int)))]) (hg_33 3 (.ref (.bx 3) 0 [] (.agg [(.int .i64 g_1.1), (Enc.enc (g_1.2 : List (Int × Int)))])) (.ref (.bx 3) 0 [] (.agg [(.int .i64 g_1.1), (Enc.enc (g_1.2 : List (Int × Int)))])) h3 (frz_none _)) rfl rfl ?_
        refine g_v1 (t := 7) (u := (Enc.enc (free_8 : List Int))) (Enc.enc (free_8 : List Int)) (hg_33 7 (Enc.enc (free_8 : List Int)) (Enc.enc (free_8 : List Int)) h7 (frz_none _)) rfl rfl ?_
        refine g_v1 (t := 2) (u := (Enc.enc (before_3 : List Int))) (Enc.enc (before_3 : List Int)) (hg_33 2 (Enc.enc (before_3 : List Int)) (Enc.enc (before_3 : List Int)) h2 (frz_none _)) rfl rfl ?_
        refine g_v1 (t := 10) (u := (.int .i64 i_31)) (.int .i64 i_31) (hg_33 10 (.int .i64 i_31) (.int .i64 i_31) h10 (frz_none _)) rfl rfl ?_
        obtain ⟨e_46, E_e_46, h⟩ := bind_some h
        refine g_v (.ref .sh 0 [] (.int .i64 e_46)) (ev_idx (t := .sh) (lo := 0) (xs := before_3) rfl rfl E_e_46 rfl rfl) ?_
        refine g_v1 (t := 45) (u := (.ref .sh 0 [] (.int .i64 e_46))) (.int .i64 e_46) rfl rfl rfl ?_
        obtain ⟨r_47, E_r_47, h⟩ := bind_some h
        refine g_call (m := 0) (al := true) (r := (Enc.enc (r_47 : (List Int)))) [Enc.enc (g_1 : (Int × (List (Int × Int)))), Enc.enc (free_8 : (List Int)), Enc.enc (e_46 : Int)] (ta_cons (v := (.agg [(.int .i64 g_1.1), (Enc.enc (g_1.2 : List (Int × Int)))])) rfl rfl (Enc.erase_enc (g_1 : (Int × (List (Int × Int))))) (ta_cons (v := (Enc.enc (free_8 : List Int))) rfl rfl (Enc.erase_enc (free_8 : (List Int))) (ta_cons (v := (.int .i64 e_46)) rfl rfl rfl ta_nil))) (H.c121 _ _ _ _ E_r_47) H.g121 (hal_of (ht_cons (v := (.agg [(.int .i64 g_1.1), (Enc.enc (g_1.2 : List (Int × Int)))])) rfl rfl rfl (ht_cons (v := (Enc.enc (free_8 : List Int))) rfl rfl rfl (ht_cons (v := (.int .i64 e_46)) rfl rfl rfl ht_nil)))) rfl rfl rfl ?_
        refine g_v1 (t := 47) (u := (Enc.enc (r_47 : List Int))) (Enc.enc (r_47 : List Int)) rfl rfl rfl ?_
        refine g_end ?_
        refine e_end ?_
        refine renew [(1, (Enc.enc (searchers_2 : List Int))), (2, (Enc.enc (before_3 : List Int))), (3, (.ref (.bx 3) 0 [] (.agg [(.int .i64 g_1.1), (Enc.enc (g_1.2 : List (Int × Int)))]))), (6, (.sl .nl (Enc.shp Int) 0 [])), (7, (Enc.enc (free_8 : List Int))), (8, (Enc.enc (out_30 : List Int))), (10, (.int .i64 i_31)), (11, (Enc.enc (r_47 : List Int)))] ⟨(hg_33 1 (Enc.enc (searchers_2 : List Int)) (Enc.enc (searchers_2 : List Int)) h1 (frz_none _)), (hg_33 2 (Enc.enc (before_3 : List Int)) (Enc.enc (before_3 : List Int)) h2 (frz_none _)), (hg_33 3 (.ref (.bx 3) 0 [] (.agg [(.int .i64 g_1.1), (Enc.enc (g_1.2 : List (Int × Int)))])) (.ref (.bx 3) 0 [] (.agg [(.int .i64 g_1.1), (Enc.enc (g_1.2 : List (Int × Int)))])) h3 (frz_none _)), (hg_33 6 (.sl .nl (Enc.shp Int) 0 []) (.sl .nl (Enc.shp Int) 0 []) h6 (frz_none _)), (hg_33 7 (Enc.enc (free_8 : List Int)) (Enc.enc (free_8 : List Int)) h7 (frz_none _)), (hg_33 8 (Enc.enc (out_30 : List Int)) (Enc.enc (out_30 : List Int)) h8 (frz_none _)), (hg_33 10 (.int .i64 i_31) (.int .i64 i_31) h10 (frz_none _)), rfl⟩ ?_
        rintro s ⟨h1, h2, h3, h6, h7, h8, h10, h11⟩
        refine .nsq ?_
        refine .seq ?_
        refine run_reg ?_
        refine e_end ?_
        refine g_v0 (.int .i64 0) rfl rfl ?_
        refine g_end ?_
        refine e_end ?_
        refine renew [(1, (Enc.enc (searchers_2 : List Int))), (2, (Enc.enc (before_3 : List Int))), (3, (.ref (.bx 3) 0 [] (.agg [(.int .i64 g_1.1), (Enc.enc (g_1.2 : List (Int × Int)))]))), (6, (.sl .nl (Enc.shp Int) 0 [])), (7, (Enc.enc (free_8 : List Int))), (8, (Enc.enc (out_30 : List Int))), (10, (.int .i64 i_31)), (11, (Enc.enc (r_47 : List Int))), (12, (.int .i64 0))] ⟨h1, h2, h3, h6, h7, h8, h10, h11, rfl⟩ ?_
        rintro s ⟨h1, h2, h3, h6, h7, h8, h10, h11, h12⟩
        refine .nsq ?_
        refine .block ?_
        refine .loop ?_
        exact t_f111_l1 H searchers_2 before_3 g_1 free_8 i_31 r_47 (s_l6Spread_l2 F searchers_2 before_3 g_1 free_8 k) ih F out_30 0 _ ⟨h1, h2, h3, h6, h7, h8, h10, h11, h12⟩ h
    · refine .exit ?_
      refine .esq ?_
      refine .elp ?_
      refine .ebk ?_
      refine .nsq ?_
      refine .seq ?_
      refine run_reg ?_
      refine e_end ?_
      refine g_v1 (t := 8) (u := (Enc.enc (out_30 : List Int))) (Enc.enc (out_30 : List Int)) h8 rfl rfl ?_
      refine g_v1 (t := 60) (u := (Enc.enc (out_30 : List Int))) (Enc.enc (out_30 : List Int)) rfl rfl rfl ?_
      refine g_end ?_
      refine e_end ?_
      refine renew [(6, (Enc.enc (out_30 : List Int)))] rfl ?_
      rintro s h6
      refine .nsq ?_
      refine .ret ?_
      have hr := Option.some.inj h
      subst hr
      exact rrA (res_tmp h6) (fin_ret1 (fin_enc (x := (out_30 : (List Int)))))
def s_l6Spread_l3 (F : Nat) (searchers_2 : (List Int)) (before_3 : (List Int)) (g_1 : (Int × (List (Int × Int))))  : Nat → (List Int) → Int → Option (List Int)
  | 0, _, _ => none
  | k + 1, free_8, x_9 =>
    bif decide (x_9 < g_1.1) then
      (s_l1Has F searchers_2 x_9).bind fun r_14 =>
      bif (!r_14) then
        (appL free_8 [x_9]).bind fun ap_17 =>
        s_l6Spread_j1 F searchers_2 before_3 g_1 x_9 (s_l6Spread_l3 F searchers_2 before_3 g_1 k) ap_17
      else
        s_l6Spread_j1 F searchers_2 before_3 g_1 x_9 (s_l6Spread_l3 F searchers_2 before_3 g_1 k) free_8
    else
      s_l6Spread_l2 F searchers_2 before_3 g_1 free_8 F [] 0
theorem t_f111_l3 (H : H111 D σ F) (searchers_2 : (List Int)) (before_3 : (List Int)) (g_1 : (Int × (List (Int × Int))))  : ∀ (k : Nat) (free_8 : (List Int)) (x_9 : Int) (s : Nat → V), Facts [(1, (Enc.enc (searchers_2 : List Int))), (2, (Enc.enc (before_3 : List Int))), (3, (.ref (.bx 3) 0 [] (.agg [(.int .i64 g_1.1), (Enc.enc (g_1.2 : List (Int × Int)))]))), (6, (.sl .nl (Enc.shp Int) 0 [])), (7, (encO (.at 7 []) (.of (free_8 : List Int)))), (8, (encO (.at 8 []) (.of ([] : List Int)))), (9, (.int .i64 x_9))] s → s_l6Spread_l3 F searchers_2 before_3 g_1 k free_8 x_9 = some r → Run D σ (R111 r) (.run A111_1 [.lp A111_1, .bk 0, .sq A111_6]) s := by
  intro k
  induction k with
  | zero => intro free_8 x_9 s _ h; exact nomatch (h : (none : Option _) = some r)
  | succ k ih =>
    intro free_8 x_9 s hs h
    rw [s_l6Spread_l3] at h
    obtain ⟨h1, h2, h3, h6, h7, h8, h9⟩ := hs
    refine .seq ?_
    refine .seq ?_
    refine run_reg ?_
    refine e_end ?_
    refine g_v1 (t := 9) (u := (.int .i64 x_9)) (.int .i64 x_9) h9 rfl rfl ?_
    refine g_v1 (t := 3) (u := (.ref (.bx 3) 0 [] (.agg [(.int .i64 g_1.1), (Enc.enc (g_1.2 : List (Int × Int)))]))) (.ref (.bx 3) 0 [0] (.int .i64 g_1.1)) h3 rfl rfl ?_
    refine g_v1 (t := 16) (u := (.ref (.bx 3) 0 [0] (.int .i64 g_1.1))) (.int .i64 g_1.1) rfl rfl rfl ?_
    refine g_v2 (t1 := 15) (t2 := 17) (u1 := (.int .i64 x_9)) (u2 := (.int .i64 g_1.1)) (.bool (decide (x_9 < g_1.1))) rfl rfl rfl rfl ?_
    refine g_end ?_
    refine e_end ?_
    refine renew [(1, (Enc.enc (searchers_2 : List Int))), (2, (Enc.enc (before_3 : List Int))), (3, (.ref (.bx 3) 0 [] (.agg [(.int .i64 g_1.1), (Enc.enc (g_1.2 : List (Int × Int)))]))), (6, (.sl .nl (Enc.shp Int) 0 [])), (7, (encO (.at 7 []) (.of (free_8 : List Int)))), (8, (encO (.at 8 []) (.of ([] : List Int)))), (9, (.int .i64 x_9)), (18, (.bool (decide (x_9 < g_1.1))))] ⟨h1, h2, h3, h6, h7, h8, h9, rfl⟩ ?_
    rintro s ⟨h1, h2, h3, h6, h7, h8, h9, h18⟩
    refine .nsq ?_
    refine run_cond (t := decide (x_9 < g_1.1)) h18 h (fun h => ?_) (fun h => ?_)
    · refine .skip ?_
      refine .nsq ?_
      refine .seq ?_
      refine .block ?_
      refine .seq ?_
      refine run_reg ?_
      refine e_end ?_
      refine g_v1 (t := 1) (u := (Enc.enc (searchers_2 : List Int))) (Enc.enc (searchers_2 : List Int)) h1 rfl rfl ?_
      refine g_v1 (t := 9) (u := (.int .i64 x_9)) (.int .i64 x_9) h9 rfl rfl ?_
      obtain ⟨r_14, E_r_14, h⟩ := bind_some h
      refine g_call (m := 0) (al := false) (r := (Enc.enc (r_14 : Bool))) [Enc.enc (searchers_2 : (List Int)), Enc.enc (x_9 : Int)] (ta_cons (v := (Enc.enc (searchers_2 : List Int))) rfl rfl (Enc.erase_enc (searchers_2 : (List Int))) (ta_cons (v := (.int .i64 x_9)) rfl rfl rfl ta_nil)) (H.c45 _ _ _ E_r_14) H.g45 rfl rfl rfl rfl ?_
      refine g_v1 (t := 23) (u := (.bool r_14)) (.bool (!r_14)) rfl rfl rfl ?_
      refine g_end ?_
      refine e_end ?_
      refine renew [(1, (Enc.enc (searchers_2 : List Int))), (2, (Enc.enc (before_3 : List Int))), (3, (.ref (.bx 3) 0 [] (.agg [(.int .i64 g_1.1), (Enc.enc (g_1.2 : List (Int × Int)))]))), (6, (.sl .nl (Enc.shp Int) 0 [])), (7, (encO (.at 7 []) (.of (free_8 : List Int)))), (8, (encO (.at 8 []) (.of ([] : List Int)))), (9, (.int .i64 x_9)), (24, (.bool (!r_14)))] ⟨h1, h2, h3, h6, h7, h8, h9, rfl⟩ ?_
      rintro s ⟨h1, h2, h3, h6, h7, h8, h9, h24⟩
      refine .nsq ?_
      refine run_cond (t := (!r_14)) h24 h (fun h => ?_) (fun h => ?_)
      · refine run_reg ?_
        refine e_clr ?_
        refine e_end ?_
        refine g_v1 (t := 7) (u := (encO (.at 7 []) (.of (free_8 : List Int)))) (encO (.at 7 []) (.of (free_8 : List Int))) (keep_clear (s := s) (pk := [27, 28]) h7 rfl (map_encO (r := 7) (p := []) rfl rfl)) rfl rfl ?_
        refine g_v1 (t := 9) (u := (.int .i64 x_9)) (.int .i64 x_9) (keep_clear (s := s) (pk := [27, 28]) h9 rfl rfl) rfl rfl ?_
        refine g_litL [(26, (.int .i64 x_9))] [Enc.enc (x_9 : Int)] rfl rfl rfl (gone_clear (s := s) (pk := [27, 28]) (t := 27) rfl) ?_
        obtain ⟨ap_17, E_ap_17, h⟩ := bind_some h
        refine g_app (q := 7) (p := []) (o := (.of (free_8 : List Int))) (ys := ([x_9] : List Int)) (t2 := (.at 27 [])) (lo2 := 0) rfl rfl rfl (gone_clear (s := s) (pk := [27, 28]) (t := 28) rfl) (appN_L (o := (.of (free_8 : List Int))) E_ap_17 trivial) (fun s_21 ha_21 => ?_)
        refine g_v1 (t := 28) (u := (encO (.at 28 []) (.of (ap_17 : List Int)))) (encO (.at 28 []) (.of (ap_17 : List Int))) rfl rfl rfl ?_
        refine g_end ?_
        refine e_home (r := 28) (x := 7) (v := (encO (.at 28 []) (.of (ap_17 : List Int)))) (by exact rfl) rfl (fun s_22 hg_22 => ?_)
        refine e_end ?_
        refine renew [(1, (Enc.enc (searchers_2 : List Int))), (2, (Enc.enc (before_3 : List Int))), (3, (.ref (.bx 3) 0 [] (.agg [(.int .i64 g_1.1), (Enc.enc (g_1.2 : List (Int × Int)))]))), (6, (.sl .nl (Enc.shp Int) 0 [])), (7, (encO (.at 7 []) (.of (ap_17 : List Int)))), (8, (encO (.at 8 []) (.of ([] : List Int)))), (9, (.int .i64 x_9))] ⟨(hg_22 1 (Enc.enc (searchers_2 : List Int)) (Enc.enc (searchers_2 : List Int)) (show s_21 1 = (Enc.enc (searchers_2 : List Int)) from keep_app ha_21 (keep_clear (s := s) (pk := [27, 28]) h1 rfl (Enc.map_enc _ (searchers_2 : List Int))) (Enc.map_enc _ (searchers_2 : List Int))) (Enc.map_enc _ (searchers_2 : List Int))), (hg_22 2 (Enc.enc (before_3 : List Int)) (Enc.enc (before_3 : List Int)) (show s_21 2 = (Enc.enc (before_3 : List Int)) from keep_app ha_21 (keep_clear (s := s) (pk := [27, 28]) h2 rfl (Enc.map_enc _ (before_3 : List Int))) (Enc.map_enc _ (before_3 : List Int))) (Enc.map_enc _ (before_3 : List Int))), (hg_22 3 (.ref (.bx 3) 0 [] (.agg [(.int .i64 g_1.1), (Enc.enc (g_1.2 : List (Int × Int)))])) (.ref (.bx 3) 0 [] (.agg [(.int .i64 g_1.1), (Enc.enc (g_1.2 : List (Int × Int)))])) (show s_21 3 = (.ref (.bx 3) 0 [] (.agg [(.int .i64 g_1.1), (Enc.enc (g_1.2 : List (Int × Int)))])) from keep_app ha_21 (keep_clear (s := s) (pk := [27, 28]) h3 rfl (map_bx rfl (map_agg (maps_cons rfl (maps_cons (Enc.map_enc _ (g_1.2 : List (Int × Int))) maps_nil))))) (map_bx rfl (map_agg (maps_cons rfl (maps_cons (Enc.map_enc _ (g_1.2 : List (Int × Int))) maps_nil))))) (map_bx rfl (map_agg (maps_cons rfl (maps_cons (Enc.map_enc _ (g_1.2 : List (Int × Int))) maps_nil))))), (hg_22 6 (.sl .nl (Enc.shp Int) 0 []) (.sl .nl (Enc.shp Int) 0 []) (show s_21 6 = (.sl .nl (Enc.shp Int) 0 []) from keep_app ha_21 (keep_clear (s := s) (pk := [27, 28]) h6 rfl rfl) rfl) rfl), (hg_22 7 (encO (.at 28 []) (.of (ap_17 : List Int))) (encO (.at 7 []) (.of (ap_17 : List Int))) rfl (map_encO (r := 28) (p := []) rfl rfl)), (hg_22 8 (encO (.at 8 []) (.of ([] : List Int))) (encO (.at 8 []) (.of ([] : List Int))) (show s_21 8 = (encO (.at 8 []) (.of ([] : List Int))) from keep_app ha_21 (keep_clear (s := s) (pk := [27, 28]) h8 rfl (map_encO (r := 8) (p := []) rfl rfl)) (map_encO (r := 8) (p := []) rfl rfl)) (map_encO (r := 8) (p := []) rfl rfl)), (hg_22 9 (.int .i64 x_9) (.int .i64 x_9) (show s_21 9 = (.int .i64 x_9) from keep_app ha_21 (keep_clear (s := s) (pk := [27, 28]) h9 rfl rfl) rfl) rfl)⟩ ?_
        rintro s ⟨h1, h2, h3, h6, h7, h8, h9⟩
        exact t_f111_j1 H searchers_2 before_3 g_1 x_9 (s_l6Spread_l3 F searchers_2 before_3 g_1 k) ih ap_17 _ ⟨h1, h2, h3, h6, h7, h8, h9⟩ h
      · refine .skip ?_
        exact t_f111_j1 H searchers_2 before_3 g_1 x_9 (s_l6Spread_l3 F searchers_2 before_3 g_1 k) ih free_8 _ ⟨h1, h2, h3, h6, h7, h8, h9⟩ h
    · refine .exit ?_
      refine .esq ?_
      refine .elp ?_
      refine .ebk ?_
      refine .nsq ?_
      refine .seq ?_
      refine .seq ?_
      refine run_reg ?_
      refine e_end ?_
      refine g_v0 (.int .i64 0) rfl rfl ?_
      refine g_end ?_
      refine e_frz (x := 7) (v := (encO (.at 7 []) (.of (free_8 : List Int)))) [(.at 7 [])] (by exact h7) toks_ownL (fun s_23 hg_23 => ?_)
      refine e_frz (x := 8) (v := (encO (.at 8 []) (.of ([] : List Int)))) [(.at 8 [])] (by exact (hg_23 8 (encO (.at 8 []) (.of ([] : List Int))) (encO (.at 8 []) (.of ([] : List Int))) h8 (frz_own_ne rfl rfl))) toks_ownL (fun s_24 hg_24 => ?_)
      refine e_end ?_
      refine renew [(1, (Enc.enc (searchers_2 : List Int))), (2, (Enc.enc (before_3 : List Int))), (3, (.ref (.bx 3) 0 [] (.agg [(.int .i64 g_1.1), (Enc.enc (g_1.2 : List (Int × Int)))]))), (6, (.sl .nl (Enc.shp Int) 0 [])), (7, (Enc.enc (free_8 : List Int))), (8, (Enc.enc ([] : List Int))), (10, (.int .i64 0))] ⟨(hg_24 1 (Enc.enc (searchers_2 : List Int)) (Enc.enc (searchers_2 : List Int)) (hg_23 1 (Enc.enc (searchers_2 : List Int)) (Enc.enc (searchers_2 : List Int)) h1 (Enc.frz_enc _ (searchers_2 : List Int))) (Enc.frz_enc _ (searchers_2 : List Int))), (hg_24 2 (Enc.enc (before_3 : List Int)) (Enc.enc (before_3 : List Int)) (hg_23 2 (Enc.enc (before_3 : List Int)) (Enc.enc (before_3 : List Int)) h2 (Enc.frz_enc _ (before_3 : List Int))) (Enc.frz_enc _ (before_3 : List Int))), (hg_24 3 (.ref (.bx 3) 0 [] (.agg [(.int .i64 g_1.1), (Enc.enc (g_1.2 : List (Int × Int)))])) (.ref (.bx 3) 0 [] (.agg [(.int .i64 g_1.1), (Enc.enc (g_1.2 : List (Int × Int)))])) (hg_23 3 (.ref (.bx 3) 0 [] (.agg [(.int .i64 g_1.1), (Enc.enc (g_1.2 : List (Int × Int)))])) (.ref (.bx 3) 0 [] (.agg [(.int .i64 g_1.1), (Enc.enc (g_1.2 : List (Int × Int)))])) h3 (frz_ref_ne rfl (frz_agg (frzs_cons rfl (frzs_cons (Enc.frz_enc _ (g_1.2 : List (Int × Int))) rfl))) rfl)) (frz_ref_ne rfl (frz_agg (frzs_cons rfl (frzs_cons (Enc.frz_enc _ (g_1.2 : List (Int × Int))) rfl))) rfl)), (hg_24 6 (.sl .nl (Enc.shp Int) 0 []) (.sl .nl (Enc.shp Int) 0 []) (hg_23 6 (.sl .nl (Enc.shp Int) 0 []) (.sl .nl (Enc.shp Int) 0 []) h6 rfl) rfl), (hg_24 7 (Enc.enc (free_8 : List Int)) (Enc.enc (free_8 : List Int)) (hg_23 7 (encO (.at 7 []) (.of (free_8 : List Int))) (Enc.enc (free_8 : List Int)) h7 frz_own) (Enc.frz_enc _ (free_8 : List Int))), (hg_24 8 (encO (.at 8 []) (.of ([] : List Int))) (Enc.enc ([] : List Int)) (hg_23 8 (encO (.at 8 []) (.of ([] : List Int))) (encO (.at 8 []) (.of ([] : List Int))) h8 (frz_own_ne rfl rfl)) frz_own), (hg_24 10 (.int .i64 0) (.int .i64 0) (hg_23 10 (.int .i64 0) (.int .i64 0) rfl rfl) rfl)⟩ ?_
      rintro s ⟨h1, h2, h3, h6, h7, h8, h10⟩
      refine .nsq ?_
      refine .block ?_
      refine .loop ?_
      exact t_f111_l2 H searchers_2 before_3 g_1 free_8 F [] 0 _ ⟨h1, h2, h3, h6, h7, h8, h10⟩ h
def s_l6Spread (F : Nat) (g_1 : (Int × (List (Int × Int)))) (searchers_2 : (List Int)) (before_3 : (List Int)) : Option (List Int) :=
  s_l6Spread_l3 F searchers_2 before_3 g_1 F [] 0
theorem t111 (H : H111 D σ F) (g_1 : (Int × (List (Int × Int)))) (searchers_2 : (List Int)) (before_3 : (List Int)) (s : Nat → V) (hs : Facts [(0, (.agg [(.int .i64 g_1.1), (Enc.enc (g_1.2 : List (Int × Int)))])), (1, (Enc.enc (searchers_2 : List Int))), (2, (Enc.enc (before_3 : List Int)))] s) (h : s_l6Spread F g_1 searchers_2 before_3 = some r) : Run D σ (R111 r) (.run A111 []) s := by
  unfold s_l6Spread at h
  obtain ⟨h0, h1, h2⟩ := hs
  refine .seq ?_
  refine run_reg ?_
  refine e_clr ?_
  refine e_end ?_
  refine g_box (.agg [(.int .i64 g_1.1), (Enc.enc (g_1.2 : List (Int × Int)))]) (rd_of (keep_clear (s := s) (pk := [3]) h0 rfl (map_agg (maps_cons rfl (maps_cons (Enc.map_enc _ (g_1.2 : List (Int × Int))) maps_nil)))) rfl) (gone_clear (s := s) (pk := [3]) (t := 3) rfl) rfl ?_
  refine g_v0 (.sl .nl (Enc.shp Int) 0 []) rfl rfl ?_
  refine g_end ?_
  refine e_end ?_
  refine renew [(1, (Enc.enc (searchers_2 : List Int))), (2, (Enc.enc (before_3 : List Int))), (3, (.ref (.bx 3) 0 [] (.agg [(.int .i64 g_1.1), (Enc.enc (g_1.2 : List (Int × Int)))]))), (6, (.sl .nl (Enc.shp Int) 0 []))] ⟨(keep_clear (s := s) (pk := [3]) h1 rfl (Enc.map_enc _ (searchers_2 : List Int))), (keep_clear (s := s) (pk := [3]) h2 rfl (Enc.map_enc _ (before_3 : List Int))), rfl, rfl⟩ ?_
  rintro s ⟨h1, h2, h3, h6⟩
  refine .nsq ?_
  refine .seq ?_
  refine run_reg ?_
  refine e_clr ?_
  refine e_end ?_
  refine g_litL [] [] trivial rfl rfl (gone_clear (s := s) (pk := [13, 14]) (t := 13) rfl) ?_
  refine g_litL [] [] trivial rfl rfl (gone_clear (s := s) (pk := [13, 14]) (t := 14) rfl) ?_
  refine g_v1 (t := 13) (u := (encO (.at 13 []) (.of ([] : List Int)))) (encO (.at 13 []) (.of ([] : List Int))) rfl rfl rfl ?_
  refine g_v1 (t := 14) (u := (encO (.at 14 []) (.of ([] : List Int)))) (encO (.at 14 []) (.of ([] : List Int))) rfl rfl rfl ?_
  refine g_end ?_
  refine e_home (r := 13) (x := 7) (v := (encO (.at 13 []) (.of ([] : List Int)))) (by exact rfl) rfl (fun s_3 hg_3 => ?_)
  refine e_home (r := 14) (x := 8) (v := (encO (.at 14 []) (.of ([] : List Int)))) (by exact (hg_3 8 (encO (.at 14 []) (.of ([] : List Int))) (encO (.at 14 []) (.of ([] : List Int))) rfl (map_encO (r := 14) (p := []) rfl rfl))) rfl (fun s_4 hg_4 => ?_)
  refine e_end ?_
  refine renew [(1, (Enc.enc (searchers_2 : List Int))), (2, (Enc.enc (before_3 : List Int))), (3, (.ref (.bx 3) 0 [] (.agg [(.int .i64 g_1.1), (Enc.enc (g_1.2 : List (Int × Int)))]))), (6, (.sl .nl (Enc.shp Int) 0 [])), (7, (encO (.at 7 []) (.of ([] : List Int)))), (8, (encO (.at 8 []) (.of ([] : List Int))))] ⟨(hg_4 1 (Enc.enc (searchers_2 : List Int)) (Enc.enc (searchers_2 : List Int)) (hg_3 1 (Enc.enc (searchers_2 : List Int)) (Enc.enc (searchers_2 : List Int)) (keep_clear (s := s) (pk := [13, 14]) h1 rfl (Enc.map_enc _ (searchers_2 : List Int))) (Enc.map_enc _ (searchers_2 : List Int))) (Enc.map_enc _ (searchers_2 : List Int))), (hg_4 2 (Enc.enc (before_3 : List Int)) (Enc.enc (before_3 : List Int)) (hg_3 2 (Enc.enc (before_3 : List Int)) (Enc.enc (before_3 : List Int)) (keep_clear (s := s) (pk := [13, 14]) h2 rfl (Enc.map_enc _ (before_3 : List Int))) (Enc.map_enc _ (before_3 : List Int))) (Enc.map_enc _ (before_3 : List Int))), (hg_4 3 (.ref (.bx 3) 0 [] (.agg [(.int .i64 g_1.1), (Enc.enc (g_1.2 : List (Int × Int)))])) (.ref (.bx 3) 0 [] (.agg [(.int .i64 g_1.1), (Enc.enc (g_1.2 : List (Int × Int)))])) (hg_3 3 (.ref (.bx 3) 0 [] (.agg [(.int .i64 g_1.1), (Enc.enc (g_1.2 : List (Int × Int)))])) (.ref (.bx 3) 0 [] (.agg [(.int .i64 g_1.1), (Enc.enc (g_1.2 : List (Int × Int)))])) (keep_clear (s := s) (pk := [13, 14]) h3 rfl (map_bx rfl (map_agg (maps_cons rfl (maps_cons (Enc.map_enc _ (g_1.2 : List (Int × Int))) maps_nil))))) (map_bx rfl (map_agg (maps_cons rfl (maps_cons (Enc.map_enc _ (g_1.2 : List (Int × Int))) maps_nil))))) (map_bx rfl (map_agg (maps_cons rfl (maps_cons (Enc.map_enc _ (g_1.2 : List (Int × Int))) maps_nil))))), (hg_4 6 (.sl .nl (Enc.shp Int) 0 []) (.sl .nl (Enc.shp Int) 0 []) (hg_3 6 (.sl .nl (Enc.shp Int) 0 []) (.sl .nl (Enc.shp Int) 0 []) (keep_clear (s := s) (pk := [13, 14]) h6 rfl rfl) rfl) rfl), (hg_4 7 (encO (.at 7 []) (.of ([] : List Int))) (encO (.at 7 []) (.of ([] : List Int))) (hg_3 7 (encO (.at 13 []) (.of ([] : List Int))) (encO (.at 7 []) (.of ([] : List Int))) rfl (map_encO (r := 13) (p := []) rfl rfl)) (map_encO (r := 7) (p := []) rfl rfl)), (hg_4 8 (encO (.at 14 []) (.of ([] : List Int))) (encO (.at 8 []) (.of ([] : List Int))) (hg_3 8 (encO (.at 14 []) (.of ([] : List Int))) (encO (.at 14 []) (.of ([] : List Int))) rfl (map_encO (r := 14) (p := []) rfl rfl)) (map_encO (r := 14) (p := []) rfl rfl))⟩ ?_
  rintro s ⟨h1, h2, h3, h6, h7, h8⟩
  refine .nsq ?_
  refine .seq ?_
  refine .seq ?_
  refine run_reg ?_
  refine e_end ?_
  refine g_v0 (.int .i64 0) rfl rfl ?_
  refine g_end ?_
  refine e_end ?_
  refine renew [(1, (Enc.enc (searchers_2 : List Int))), (2, (Enc.enc (before_3 : List Int))), (3, (.ref (.bx 3) 0 [] (.agg [(.int .i64 g_1.1), (Enc.enc (g_1.2 : List (Int × Int)))]))), (6, (.sl .nl (Enc.shp Int) 0 [])), (7, (encO (.at 7 []) (.of ([] : List Int)))), (8, (encO (.at 8 []) (.of ([] : List Int)))), (9, (.int .i64 0))] ⟨h1, h2, h3, h6, h7, h8, rfl⟩ ?_
  rintro s ⟨h1, h2, h3, h6, h7, h8, h9⟩
  refine .nsq ?_
  refine .block ?_
  refine .loop ?_
  exact t_f111_l3 H searchers_2 before_3 g_1 F [] 0 _ ⟨h1, h2, h3, h6, h7, h8, h9⟩ h
end
def e111 (F : Nat) : Ent := ⟨111, da (fun (x : ((Int × (List (Int × Int))) × (List Int) × (List Int) × Unit)) => s_l6Spread F x.1 x.2.1 x.2.2.1) (fun (r : (List Int)) => (Enc.enc (r : (List Int)))), 0, true, selF []⟩
theorem p111 {F : Nat} {x0 : (Int × (List (Int × Int)))} {x1 : (List Int)} {x2 : (List Int)} {r : (List Int)} (h : s_l6Spread F x0 x1 x2 = some r) : (e111 F).den [Enc.enc x0, Enc.enc x1, Enc.enc x2] = some (Enc.enc (r : (List Int))) := da_put (f := fun (x : ((Int × (List (Int × Int))) × (List Int) × (List Int) × Unit)) => s_l6Spread F x.1 x.2.1 x.2.2.1) (t := fun (r : (List Int)) => (Enc.enc (r : (List Int)))) (x0, x1, x2, ()) h
theorem o111 {D : Den} {σ : Sig} {F : Nat} (hF : Fits2 Try.prog D σ) (H : H111 D σ F) : (e111 F).Ok Try.prog := by
  refine ⟨fun args r h => ?_, ⟨Try.f111, Try.func111, rfl, rfl⟩⟩
  obtain ⟨⟨x0, x1, x2, _⟩, y, rfl, hy, rfl⟩ := da_open h
  exact contract_run hF (by kernel_rfl) Try.func111 rfl c111 (show 3 ≤ Try.f111.ntmps by decide) (t111 H x0 x1 x2 _ ⟨rfl, rfl, rfl⟩ hy)
/- loop.example/g01109/spec.l6Step -/
def A72_1 : AC := (AC.seq (AC.reg [] [(I.mk (some 19) none false (X.v (A.mov (O.t 7)))), (I.mk (some 20) none false (X.v (A.load (Sh.ag [Sh.s, Sh.p]) (O.t 3)))), (I.mk (some 21) none false (X.v (A.mov (O.t 7)))), (I.mk (some 22) none false (X.v (A.fld (O.t 4) 1 1))), (I.mk (some 23) none false (X.v (A.load Sh.p (O.t 22)))), (I.mk (some 24) none false (X.call (O.k (V.fn 111 [] [])) [(O.t 20), (O.t 21), (O.t 23)])), (I.mk (some 25) none false (X.v (A.bld (V.agg [(V.sl Tok.nl Sh.s 0 []), (V.sl Tok.nl Sh.s 0 [])]) [(0, 0, (O.t 19)), (1, 1, (O.t 24))]))), (I.mk none none false (X.store (Sh.ag [Sh.p, Sh.p]) (O.t 6) (O.t 25)))] []) AC.ret)
def A72_4 : AC := (AC.cond (O.t 14) (AC.reg [] [(I.mk (some 15) none false (X.v (A.fld (O.t 4) 0 0))), (I.mk (some 16) none false (X.v (A.load Sh.p (O.t 15)))), (I.mk (some 17) none false (X.v (A.mov (O.t 2)))), (I.mk (some 18) none false (X.call (O.k (V.fn 110 [] [])) [(O.t 16), (O.t 17)])), (I.mk (some 7) none false (X.v (A.mov (O.t 18))))] []) AC.skip)
def A72_3 : AC := (AC.seq (AC.seq (AC.reg [] [(I.mk (some 13) none false (X.v (A.mov (O.t 2)))), (I.mk (some 14) none false (X.v (A.bin BinOp.geq (O.t 13) (O.k (V.int IntKind.i64 (Int.ofNat 0))))))] []) A72_4) A72_1)
def A72_2 : AC := (AC.seq (AC.reg [] [(I.mk (some 8) none false (X.v (A.fld (O.t 4) 0 0))), (I.mk (some 9) none false (X.v (A.load Sh.p (O.t 8)))), (I.mk (some 10) none false (X.v (A.mov (O.t 2)))), (I.mk (some 11) none false (X.v (A.bin BinOp.sub (O.k (V.int IntKind.i64 (Int.negSucc 0))) (O.t 10)))), (I.mk (some 12) none false (X.call (O.k (V.fn 109 [] [])) [(O.t 9), (O.t 11)])), (I.mk (some 7) none false (X.v (A.mov (O.t 12))))] []) A72_3)
def A72 : AC := (AC.seq (AC.reg [.clr [3, 4, 6]] [(I.mk (some 3) none false (X.box (O.t 0))), (I.mk (some 4) none false (X.box (O.t 1))), (I.mk (some 6) none false (X.alloc (V.agg [(V.sl Tok.nl Sh.s 0 []), (V.sl Tok.nl Sh.s 0 [])])))] []) A72_2)
def an72 : List An := [{ id := 0, pre := [.clr [3, 4, 6]], ep := [], lin := [], sp := [] }]
theorem c72 : cC Try.prog Try.f72.ntmps an72 (Try.f72.body.getD .skip) = some A72 := by kernel_rfl
structure H72 (D : Den) (σ : Sig) (F : Nat) : Prop where
  c109 : ∀ (x0 : (List Int)) (x1 : Int) r, s_l2Without F x0 x1 = some r → D 109 [Enc.enc x0, Enc.enc x1] = some (Enc.enc (r : (List Int)))
  g109 : σ 109 = some (0, false)
  c110 : ∀ (x0 : (List Int)) (x1 : Int) r, s_l1Put F x0 x1 = some r → D 110 [Enc.enc x0, Enc.enc x1] = some (Enc.enc (r : (List Int)))
  g110 : σ 110 = some (0, true)
  c111 : ∀ (x0 : (Int × (List (Int × Int)))) (x1 : (List Int)) (x2 : (List Int)) r, s_l6Spread F x0 x1 x2 = some r → D 111 [Enc.enc x0, Enc.enc x1, Enc.enc x2] = some (Enc.enc (r : (List Int)))
  g111 : σ 111 = some (0, true)
abbrev R72 (r : ((List Int) × (List Int))) : (Nat → V) → Prop := RR Try.prog [.cell 6 67] 0 true (Enc.enc (r : ((List Int) × (List Int))))
section
variable {D : Den} {σ : Sig} {F : Nat} {r : ((List Int) × (List Int))}
def s_l6Step_j1 (F : Nat) (g_1 : (Int × (List (Int × Int)))) (s_2 : ((List Int) × (List Int)))  (searchers_6 : (List Int)) : Option ((List Int) × (List Int)) :=
  (s_l6Spread F g_1 searchers_6 s_2.2).bind fun r_7 =>
  some (searchers_6, r_7)
theorem t_f72_j1 (H : H72 D σ F) (g_1 : (Int × (List (Int × Int)))) (s_2 : ((List Int) × (List Int)))  (searchers_6 : (List Int)) (s : Nat → V) (hs : Facts [(3, (.ref (.bx 3) 0 [] (.agg [(.int .i64 g_1.1), (Enc.enc (g_1.2 : List (Int × Int)))]))), (4, (.ref (.bx 4) 0 [] (.agg [(Enc.enc (s_2.1 : List Int)), (Enc.enc (s_2.2 : List Int))]))), (6, (.ref (.bx 6) 0 [] (.agg [(.sl .nl (Enc.shp Int) 0 []), (.sl .nl (Enc.shp Int) 0 [])]))), (7, (Enc.enc (searchers_6 : List Int)))] s) (h : s_l6Step_j1 F g_1 s_2  searchers_6 = some r) : Run D σ (R72 r) (.nrm [.sq A72_1]) s := by
  unfold s_l6Step_j1 at h
  obtain ⟨h3, h4, h6, h7⟩ := hs
  refine .nsq ?_
  refine .seq ?_
  refine run_reg ?_
  refine e_end ?_
  refine g_v1 (t := 7) (u := (Enc.enc (searchers_6 : List Int))) (Enc.enc (searchers_6 : List Int)) h7 rfl rfl ?_
  refine g_v1 (t := 3) (u := (.ref (.bx 3) 0 [] (.agg [(.int .i64 g_1.1), (Enc.enc (g_1.2 : List (Int × Int)))]))) (.agg [(.int .i64 g_1.1), (Enc.enc (g_1.2 : List (Int × Int)))]) h3 rfl rfl ?_
  refine g_v1 (t := 7) (u := (Enc.enc (searchers_6 : List Int))) (Enc.enc (searchers_6 : List Int)) h7 rfl rfl ?_
  refine g_v1 (t := 4) (u := (.ref (.bx 4) 0 [] (.agg [(Enc.enc (s_2.1 : List Int)), (Enc.enc (s_2.2 : List Int))]))) (.ref (.bx 4) 0 [1] (Enc.enc (s_2.2 : List Int))) h4 rfl rfl ?_
  refine g_v1 (t := 22) (u := (.ref (.bx 4) 0 [1] (Enc.enc (s_2.2 : List Int)))) (Enc.enc (s_2.2 : List Int)) rfl rfl rfl ?_
  obtain ⟨r_7, E_r_7, h⟩ := bind_some h
  refine g_call (m := 0) (al := true) (r := (Enc.enc (r_7 : (List Int)))) [Enc.enc (g_1 : (Int × (List (Int × Int)))), Enc.enc (searchers_6 : (List Int)), Enc.enc (s_2.2 : (List Int))] (ta_cons (v := (.agg [(.int .i64 g_1.1), (Enc.enc (g_1.2 : List (Int × Int)))])) rfl rfl (Enc.erase_enc (g_1 : (Int × (List (Int × Int))))) (ta_cons (v := (Enc.enc (searchers_6 : List Int))) rfl rfl (Enc.erase_enc (searchers_6 : (List Int))) (ta_cons (v := (Enc.enc (s_2.2 : List Int))) rfl rfl (Enc.erase_enc (s_2.2 : (List Int))) ta_nil))) (H.c111 _ _ _ _ E_r_7) H.g111 (hal_of (ht_cons (v := (.agg [(.int .i64 g_1.1), (Enc.enc (g_1.2 : List (Int × Int)))])) rfl rfl rfl (ht_cons (v := (Enc.enc (searchers_6 : List Int))) rfl rfl rfl (ht_cons (v := (Enc.enc (s_2.2 : List Int))) rfl rfl rfl ht_nil)))) rfl rfl rfl ?_
  refine g_v2 (t1 := 19) (t2 := 24) (u1 := (Enc.enc (searchers_6 : List Int))) (u2 := (Enc.enc (r_7 : List Int))) (.agg [(Enc.enc (searchers_6 : List Int)), (Enc.enc (r_7 : List Int))]) rfl rfl rfl rfl ?_
  refine g_store (.agg [(Enc.enc (searchers_6 : List Int)), (Enc.enc (r_7 : List Int))]) (rd_of h6 rfl) (rd_of rfl rfl) (by refine ⟨by decide, by decide, rfl, rfl, rfl, ?_⟩; first | rfl | simp [V.toks, V.tokss, Enc.toks_enc]) ?_
  refine g_end ?_
  refine e_end ?_
  refine renew [(6, (.ref (.bx 6) 0 [] (.agg [(Enc.enc (searchers_6 : List Int)), (Enc.enc (r_7 : List Int))])))] (keep_mut h6 rfl) ?_
  rintro s h6
  refine .nsq ?_
  refine .ret ?_
  have hr := Option.some.inj h
  subst hr
  exact rrA (res_cell h6 (by kernel_rfl)) (fin_ret1 (fin_enc (x := ((searchers_6, r_7) : ((List Int) × (List Int))))))
def s_l6Step (F : Nat) (g_1 : (Int × (List (Int × Int)))) (s_2 : ((List Int) × (List Int))) (step_3 : Int) : Option ((List Int) × (List Int)) :=
  (s_l2Without F s_2.1 (w64 ((-1) - step_3))).bind fun r_4 =>
  bif decide (step_3 ≥ 0) then
    (s_l1Put F s_2.1 step_3).bind fun r_8 =>
    s_l6Step_j1 F g_1 s_2 r_8
  else
    s_l6Step_j1 F g_1 s_2 r_4
theorem t72 (H : H72 D σ F) (g_1 : (Int × (List (Int × Int)))) (s_2 : ((List Int) × (List Int))) (step_3 : Int) (s : Nat → V) (hs : Facts [(0, (.agg [(.int .i64 g_1.1), (Enc.enc (g_1.2 : List (Int × Int)))])), (1, (.agg [(Enc.enc (s_2.1 : List Int)), (Enc.enc (s_2.2 : List Int))])), (2, (.int .i64 step_3))] s) (h : s_l6Step F g_1 s_2 step_3 = some r) : Run D σ (R72 r) (.run A72 []) s := by
  unfold s_l6Step at h
  obtain ⟨h0, h1, h2⟩ := hs
  refine .seq ?_
  refine run_reg ?_
  refine e_clr ?_
  refine e_end ?_
  refine g_box (.agg [(.int .i64 g_1.1), (Enc.enc (g_1.2 : List (Int × Int)))]) (rd_of (keep_clear (s := s) (pk := [3, 4, 6]) h0 rfl (map_agg (maps_cons rfl (maps_cons (Enc.map_enc _ (g_1.2 : List (Int × Int))) maps_nil)))) rfl) (gone_clear (s := s) (pk := [3, 4, 6]) (t := 3) rfl) rfl ?_
  refine g_box (.agg [(Enc.enc (s_2.1 : List Int)), (Enc.enc (s_2.2 : List Int))]) (rd_of (keep_clear (s := s) (pk := [3, 4, 6]) h1 rfl (map_agg (maps_cons (Enc.map_enc _ (s_2.1 : List Int)) (maps_cons (Enc.map_enc _ (s_2.2 : List Int)) maps_nil)))) rfl) (gone_clear (s := s) (pk := [3, 4, 6]) (t := 4) rfl) rfl ?_
  refine g_alloc (gone_clear (s := s) (pk := [3, 4, 6]) (t := 6) rfl) ?_
  refine g_end ?_
  refine e_end ?_
  refine renew [(2, (.int .i64 step_3)), (3, (.ref (.bx 3) 0 [] (.agg [(.int .i64 g_1.1), (Enc.enc (g_1.2 : List (Int × Int)))]))), (4, (.ref (.bx 4) 0 [] (.agg [(Enc.enc (s_2.1 : List Int)), (Enc.enc (s_2.2 : List Int))]))), (6, (.ref (.bx 6) 0 [] (.agg [(.sl .nl (Enc.shp Int) 0 []), (.sl .nl (Enc.shp Int) 0 [])])))] ⟨(keep_clear (s := s) (pk := [3, 4, 6]) h2 rfl rfl), rfl, rfl, rfl⟩ ?_
  rintro s ⟨h2, h3, h4, h6⟩
  refine .nsq ?_
  refine .seq ?_
  refine run_reg ?_
  refine e_end ?_
  refine g_v1 (t := 4) (u := (.ref (.bx 4) 0 [] (.agg [(Enc.enc (s_2.1 : List Int)), (Enc.enc (s_2.2 : List Int))]))) (.ref (.bx 4) 0 [0] (Enc.enc (s_2.1 : List Int))) h4 rfl rfl ?_
  refine g_v1 (t := 8) (u := (.ref (.bx 4) 0 [0] (Enc.enc (s_2.1 : List Int)))) (Enc.enc (s_2.1 : List Int)) rfl rfl rfl ?_
  refine g_v1 (t := 2) (u := (.int .i64 step_3)) (.int .i64 step_3) h2 rfl rfl ?_
  refine g_v1 (t := 10) (u := (.int .i64 step_3)) (.int .i64 (w64 ((-1) - step_3))) rfl rfl rfl ?_
  obtain ⟨r_4, E_r_4, h⟩ := bind_some h
  refine g_call (m := 0) (al := false) (r := (Enc.enc (r_4 : (List Int)))) [Enc.enc (s_2.1 : (List Int)), Enc.enc (w64 ((-1) - step_3) : Int)] (ta_cons (v := (Enc.enc (s_2.1 : List Int))) rfl rfl (Enc.erase_enc (s_2.1 : (List Int))) (ta_cons (v := (.int .i64 (w64 ((-1) - step_3)))) rfl rfl rfl ta_nil)) (H.c109 _ _ _ E_r_4) H.g109 rfl rfl rfl rfl ?_
  refine g_v1 (t := 12) (u := (Enc.enc (r_4 : List Int))) (Enc.enc (r_4 : List Int)) rfl rfl rfl ?_
  refine g_end ?_
  refine e_end ?_
  refine renew [(2, (.int .i64 step_3)), (3, (.ref (.bx 3) 0 [] (.agg [(.int .i64 g_1.1), (Enc.enc (g_1.2 : List (Int × Int)))]))), (4, (.ref (.bx 4) 0 [] (.agg [(Enc.enc (s_2.1 : List Int)), (Enc.enc (s_2.2 : List Int))]))), (6, (.ref (.bx 6) 0 [] (.agg [(.sl .nl (Enc.shp Int) 0 []), (.sl .nl (Enc.shp Int) 0 [])]))), (7, (Enc.enc (r_4 : List Int)))] ⟨h2, h3, h4, h6, rfl⟩ ?_
  rintro s ⟨h2, h3, h4, h6, h7⟩
  refine .nsq ?_
  refine .seq ?_
  refine .seq ?_
  refine run_reg ?_
  refine e_end ?_
  refine g_v1 (t := 2) (u := (.int .i64 step_3)) (.int .i64 step_3) h2 rfl rfl ?_
  refine g_v1 (t := 13) (u := (.int .i64 step_3)) (.bool (decide (step_3 ≥ 0))) rfl rfl rfl ?_
  refine g_end ?_
  refine e_end ?_
  refine renew [(2, (.int .i64 step_3)), (3, (.ref (.bx 3) 0 [] (.agg [(.int .i64 g_1.1), (Enc.enc (g_1.2 : List (Int × Int)))]))), (4, (.ref (.bx 4) 0 [] (.agg [(Enc.enc (s_2.1 : List Int)), (Enc.enc (s_2.2 : List Int))]))), (6, (.ref (.bx 6) 0 [] (.agg [(.sl .nl (Enc.shp Int) 0 []), (.sl .nl (Enc.shp Int) 0 [])]))), (7, (Enc.enc (r_4 : List Int))), (14, (.bool (decide (step_3 ≥ 0))))] ⟨h2, h3, h4, h6, h7, rfl⟩ ?_
  rintro s ⟨h2, h3, h4, h6, h7, h14⟩
  refine .nsq ?_
  refine run_cond (t := decide (step_3 ≥ 0)) h14 h (fun h => ?_) (fun h => ?_)
  · refine run_reg ?_
    refine e_end ?_
    refine g_v1 (t := 4) (u := (.ref (.bx 4) 0 [] (.agg [(Enc.enc (s_2.1 : List Int)), (Enc.enc (s_2.2 : List Int))]))) (.ref (.bx 4) 0 [0] (Enc.enc (s_2.1 : List Int))) h4 rfl rfl ?_
    refine g_v1 (t := 15) (u := (.ref (.bx 4) 0 [0] (Enc.enc (s_2.1 : List Int)))) (Enc.enc (s_2.1 : List Int)) rfl rfl rfl ?_
    refine g_v1 (t := 2) (u := (.int .i64 step_3)) (.int .i64 step_3) h2 rfl rfl ?_
    obtain ⟨r_8, E_r_8, h⟩ := bind_some h
    refine g_call (m := 0) (al := true) (r := (Enc.enc (r_8 : (List Int)))) [Enc.enc (s_2.1 : (List Int)), Enc.enc (step_3 : Int)] (ta_cons (v := (Enc.enc (s_2.1 : List Int))) rfl rfl (Enc.erase_enc (s_2.1 : (List Int))) (ta_cons (v := (.int .i64 step_3)) rfl rfl rfl ta_nil)) (H.c110 _ _ _ E_r_8) H.g110 (hal_of (ht_cons (v := (Enc.enc (s_2.1 : List Int))) rfl rfl rfl (ht_cons (v := (.int .i64 step_3)) rfl rfl rfl ht_nil))) rfl rfl rfl ?_
    refine g_v1 (t := 18) (u := (Enc.enc (r_8 : List Int))) (Enc.enc (r_8 : List Int)) rfl rfl rfl ?_
    refine g_end ?_
    refine e_end ?_
    refine renew [(3, (.ref (.bx 3) 0 [] (.agg [(.int .i64 g_1.1), (Enc.enc (g_1.2 : List (Int × Int)))]))), (4, (.ref (.bx 4) 0 [] (.agg [(Enc.enc (s_2.1 : List Int)), (Enc.enc (s_2.2 : List Int))]))), (6, (.ref (.bx 6) 0 [] (.agg [(.sl .nl (Enc.shp Int) 0 []), (.sl .nl (Enc.shp Int) 0 [])]))), (7, (Enc.enc (r_8 : List Int)))] ⟨h3, h4, h6, rfl⟩ ?_
    rintro s ⟨h3, h4, h6, h7⟩
    exact t_f72_j1 H g_1 s_2 r_8 _ ⟨h3, h4, h6, h7⟩ h
  · refine .skip ?_
    exact t_f72_j1 H g_1 s_2 r_4 _ ⟨h3, h4, h6, h7⟩ h
end
def e72 (F : Nat) : Ent := ⟨72, da (fun (x : ((Int × (List (Int × Int))) × ((List Int) × (List Int)) × Int × Unit)) => s_l6Step F x.1 x.2.1 x.2.2.1) (fun (r : ((List Int) × (List Int))) => (Enc.enc (r : ((List Int) × (List Int))))), 0, true, selF []⟩
theorem p72 {F : Nat} {x0 : (Int × (List (Int × Int)))} {x1 : ((List Int) × (List Int))} {x2 : Int} {r : ((List Int) × (List Int))} (h : s_l6Step F x0 x1 x2 = some r) : (e72 F).den [Enc.enc x0, Enc.enc x1, Enc.enc x2] = some (Enc.enc (r : ((List Int) × (List Int)))) := da_put (f := fun (x : ((Int × (List (Int × Int))) × ((List Int) × (List Int)) × Int × Unit)) => s_l6Step F x.1 x.2.1 x.2.2.1) (t := fun (r : ((List Int) × (List Int))) => (Enc.enc (r : ((List Int) × (List Int))))) (x0, x1, x2, ()) h
theorem o72 {D : Den} {σ : Sig} {F : Nat} (hF : Fits2 Try.prog D σ) (H : H72 D σ F) : (e72 F).Ok Try.prog := by
  refine ⟨fun args r h => ?_, ⟨Try.f72, Try.func72, rfl, rfl⟩⟩
  obtain ⟨⟨x0, x1, x2, _⟩, y, rfl, hy, rfl⟩ := da_open h
  exact contract_run hF (by kernel_rfl) Try.func72 rfl c72 (show 3 ≤ Try.f72.ntmps by decide) (t72 H x0 x1 x2 _ ⟨rfl, rfl, rfl⟩ hy)
/- loop.example/g01109/spec.l6Program -/
def A43_2 : AC := (AC.cond (O.t 12) AC.skip (AC.exit 0))
def A43_4 : AC := (AC.cond (O.t 22) (AC.seq (AC.reg [] [(I.mk (some 4) none false (X.v (A.mov (O.k (V.bool false)))))] []) AC.ret) AC.skip)
def A43_5 : AC := (AC.reg [] [(I.mk (some 23) none false (X.v (A.load (Sh.ag [Sh.s, Sh.p]) (O.t 2)))), (I.mk (some 24) none false (X.v (A.load (Sh.ag [Sh.p, Sh.p]) (O.t 5)))), (I.mk (some 25) none false (X.v (A.mov (O.t 1)))), (I.mk (some 26) none false (X.v (A.mov (O.t 6)))), (I.mk (some 27) none false (X.v (A.idx (O.t 25) (O.t 26) 1))), (I.mk (some 28) none false (X.v (A.load Sh.s (O.t 27)))), (I.mk (some 29) none false (X.call (O.k (V.fn 72 [] [])) [(O.t 23), (O.t 24), (O.t 28)])), (I.mk none none false (X.store (Sh.ag [Sh.p, Sh.p]) (O.t 5) (O.t 29)))] [])
def A43_6 : AC := (AC.reg [] [(I.mk (some 13) none false (X.v (A.mov (O.t 6)))), (I.mk (some 14) none false (X.v (A.bin BinOp.add (O.t 13) (O.k (V.int IntKind.i64 (Int.ofNat 1)))))), (I.mk (some 6) none false (X.v (A.mov (O.t 14))))] [])
def A43_3 : AC := (AC.seq (AC.block 1 (AC.seq (AC.seq (AC.reg [] [(I.mk (some 15) none false (X.v (A.load (Sh.ag [Sh.s, Sh.p]) (O.t 2)))), (I.mk (some 16) none false (X.v (A.load (Sh.ag [Sh.p, Sh.p]) (O.t 5)))), (I.mk (some 17) none false (X.v (A.mov (O.t 1)))), (I.mk (some 18) none false (X.v (A.mov (O.t 6)))), (I.mk (some 19) none false (X.v (A.idx (O.t 17) (O.t 18) 1))), (I.mk (some 20) none false (X.v (A.load Sh.s (O.t 19)))), (I.mk (some 21) none false (X.call (O.k (V.fn 71 [] [])) [(O.t 15), (O.t 16), (O.t 20)])), (I.mk (some 22) none false (X.v (A.un UnOp.not (O.t 21))))] []) A43_4) A43_5)) A43_6)
def A43_1 : AC := (AC.seq (AC.seq (AC.reg [] [(I.mk (some 9) none false (X.v (A.mov (O.t 6)))), (I.mk (some 10) none false (X.v (A.mov (O.t 1)))), (I.mk (some 11) none false (X.v (A.len (O.t 10)))), (I.mk (some 12) none false (X.v (A.bin BinOp.lss (O.t 9) (O.t 11))))] []) A43_2) A43_3)
def A43_7 : AC := (AC.seq (AC.reg [] [(I.mk (some 30) none false (X.v (A.mov (O.t 1)))), (I.mk (some 31) none false (X.v (A.len (O.t 30)))), (I.mk (some 32) none false (X.v (A.bin BinOp.leq (O.t 31) (O.k (V.int IntKind.i64 (Int.ofNat 40)))))), (I.mk (some 4) none false (X.v (A.mov (O.t 32))))] []) AC.ret)
def A43_10 : AC := (AC.block 0 (AC.loop A43_1))
def A43_9 : AC := (AC.seq (AC.seq (AC.reg [] [(I.mk (some 6) none false (X.v (A.mov (O.k (V.int IntKind.i64 (Int.ofNat 0))))))] []) A43_10) A43_7)
def A43_8 : AC := (AC.seq (AC.reg [.clr [5]] [(I.mk (some 7) none false (X.v (A.load (Sh.ag [Sh.s, Sh.p]) (O.t 2)))), (I.mk (some 8) none false (X.call (O.k (V.fn 70 [] [])) [(O.t 7)])), (I.mk (some 5) none false (X.alloc (V.agg [(V.sl Tok.nl Sh.s 0 []), (V.sl Tok.nl Sh.s 0 [])]))), (I.mk none none false (X.store (Sh.ag [Sh.p, Sh.p]) (O.t 5) (O.t 8)))] []) A43_9)
def A43 : AC := (AC.seq (AC.reg [.clr [2]] [(I.mk (some 2) none false (X.box (O.t 0))), (I.mk (some 4) none false (X.v (A.mov (O.k (V.bool false)))))] []) A43_8)
def an43 : List An := [{ id := 0, pre := [.clr [2]], ep := [], lin := [], sp := [] }, { id := 1, pre := [.clr [5]], ep := [], lin := [], sp := [] }]
theorem c43 : cC Try.prog Try.f43.ntmps an43 (Try.f43.body.getD .skip) = some A43 := by kernel_rfl
structure H43 (D : Den) (σ : Sig) (F : Nat) : Prop where
  c70 : ∀ (x0 : (Int × (List (Int × Int)))) r, s_l6Begin F x0 = some r → D 70 [Enc.enc x0] = some (Enc.enc (r : ((List Int) × (List Int))))
  g70 : σ 70 = some (0, true)
  c71 : ∀ (x0 : (Int × (List (Int × Int)))) (x1 : ((List Int) × (List Int))) (x2 : Int) r, s_l6Can F x0 x1 x2 = some r → D 71 [Enc.enc x0, Enc.enc x1, Enc.enc x2] = some (Enc.enc (r : Bool))
  g71 : σ 71 = some (0, false)
  c72 : ∀ (x0 : (Int × (List (Int × Int)))) (x1 : ((List Int) × (List Int))) (x2 : Int) r, s_l6Step F x0 x1 x2 = some r → D 72 [Enc.enc x0, Enc.enc x1, Enc.enc x2] = some (Enc.enc (r : ((List Int) × (List Int))))
  g72 : σ 72 = some (0, true)
abbrev R43 (r : Bool) : (Nat → V) → Prop := RR Try.prog [.tmp 4] 0 false (Enc.enc (r : Bool))
section
variable {D : Den} {σ : Sig} {F : Nat} {r : Bool}
def s_l6Program_l1 (F : Nat) (program_2 : (List Int)) (g_1 : (Int × (List (Int × Int))))  : Nat → (List Int) → (List Int) → Int → Option Bool
  | 0, _, _, _ => none
  | k + 1, s_8, s_9, i_10 =>
    bif decide (i_10 < (program_2.length : Int)) then
      (idx program_2 i_10).bind fun e_15 =>
      (s_l6Can F g_1 (s_8, s_9) e_15).bind fun r_16 =>
      bif (!r_16) then
        some false
      else
        (idx program_2 i_10).bind fun e_17 =>
        (s_l6Step F g_1 (s_8, s_9) e_17).bind fun r_18 =>
        (s_l6Program_l1 F program_2 g_1 k) r_18.1 r_18.2 (w64 (i_10 + 1))
    else
      some (decide ((program_2.length : Int) ≤ 40))
theorem t_f43_l1 (H : H43 D σ F) (program_2 : (List Int)) (g_1 : (Int × (List (Int × Int))))  : ∀ (k : Nat) (s_8 : (List Int)) (s_9 : (List Int)) (i_10 : Int) (s : Nat → V), Facts [(1, (Enc.enc (program_2 : List Int))), (2, (.ref (.bx 2) 0 [] (.agg [(.int .i64 g_1.1), (Enc.enc (g_1.2 : List (Int × Int)))]))), (4, (.bool false)), (5, (.ref (.bx 5) 0 [] (.agg [(Enc.enc (s_8 : List Int)), (Enc.enc (s_9 : List Int))]))), (6, (.int .i64 i_10))] s → s_l6Program_l1 F program_2 g_1 k s_8 s_9 i_10 = some r → Run D σ (R43 r) (.run A43_1 [.lp A43_1, .bk 0, .sq A43_7]) s := by
  intro k
  induction k with
  | zero => intro s_8 s_9 i_10 s _ h; exact nomatch (h : (none : Option _) = some r)
  | succ k ih =>
    intro s_8 s_9 i_10 s hs h
    rw [s_l6Program_l1] at h
    obtain ⟨h1, h2, h4, h5, h6⟩ := hs
    refine .seq ?_
    refine .seq ?_
    refine run_reg ?_
    refine e_end ?_
    refine g_v1 (t := 6) (u := (.int .i64 i_10)) (.int .i64 i_10) h6 rfl rfl ?_
    refine g_v1 (t := 1) (u := (Enc.enc (program_2 : List Int))) (Enc.enc (program_2 : List Int)) h1 rfl rfl ?_
    refine g_v (.int .i64 (program_2.length : Int)) (ev_len (xs := program_2) rfl) ?_
    refine g_v2 (t1 := 9) (t2 := 11) (u1 := (.int .i64 i_10)) (u2 := (.int .i64 (program_2.length : Int))) (.bool (decide (i_10 < (program_2.length : Int)))) rfl rfl rfl rfl ?_
    refine g_end ?_
    refine e_end ?_
    refine renew [(1, (Enc.enc (program_2 : List Int))), (2, (.ref (.bx 2) 0 [] (.agg [(.int .i64 g_1.1), (Enc.enc (g_1.2 : List (Int × Int)))]))), (4, (.bool false)), (5, (.ref (.bx 5) 0 [] (.agg [(Enc.enc (s_8 : List Int)), (Enc.enc (s_9 : List Int))]))), (6, (.int .i64 i_10)), (12, (.bool (decide (i_10 < (program_2.length : Int)))))] ⟨h1, h2, h4, h5, h6, rfl⟩ ?_
    rintro s ⟨h1, h2, h4, h5, h6, h12⟩
    refine .nsq ?_
    refine run_cond (t := decide (i_10 < (program_2.length : Int))) h12 h (fun h => ?_) (fun h => ?_)
    · refine .skip ?_
      refine .nsq ?_
      refine .seq ?_
      refine .block ?_
      refine .seq ?_
      refine .seq ?_
      refine run_reg ?_
      refine e_end ?_
      refine g_v1 (t := 2) (u := (.ref (.bx 2) 0 [] (.agg [(.int .i64 g_1.1), (Enc.enc (g_1.2 : List (Int × Int)))]))) (.agg [(.int .i64 g_1.1), (Enc.enc (g_1.2 : List (Int × Int)))]) h2 rfl rfl ?_
      refine g_v1 (t := 5) (u := (.ref (.bx 5) 0 [] (.agg [(Enc.enc (s_8 : List Int)), (Enc.enc (s_9 : List Int))]))) (.agg [(Enc.enc (s_8 : List Int)), (Enc.enc (s_9 : List Int))]) h5 rfl rfl ?_
      refine g_v1 (t := 1) (u := (Enc.enc (program_2 : List Int))) (Enc.enc (program_2 : List Int)) h1 rfl rfl ?_
      refine g_v1 (t := 6) (u := (.int .i64 i_10)) (.int .i64 i_10) h6 rfl rfl ?_
      obtain ⟨e_15, E_e_15, h⟩ := bind_some h
      refine g_v (.ref .sh 0 [] (.int .i64 e_15)) (ev_idx (t := .sh) (lo := 0) (xs := program_2) rfl rfl E_e_15 rfl rfl) ?_
      refine g_v1 (t := 19) (u := (.ref .sh 0 [] (.int .i64 e_15))) (.int .i64 e_15) rfl rfl rfl ?_
      obtain ⟨r_16, E_r_16, h⟩ := bind_some h
      refine g_call (m := 0) (al := false) (r := (Enc.enc (r_16 : Bool))) [Enc.enc (g_1 : (Int × (List (Int × Int)))), Enc.enc ((s_8, s_9) : ((List Int) × (List Int))), Enc.enc (e_15 : Int)] (ta_cons (v := (.agg [(.int .i64 g_1.1), (Enc.enc (g_1.2 : List (Int × Int)))])) rfl rfl (Enc.erase_enc (g_1 : (Int × (List (Int × Int))))) (ta_cons (v := (.agg [(Enc.enc (s_8 : List Int)), (Enc.enc (s_9 : List Int))])) rfl rfl (Enc.erase_enc ((s_8, s_9) : ((List Int) × (List Int)))) (ta_cons (v := (.int .i64 e_15)) rfl rfl rfl ta_nil))) (H.c71 _ _ _ _ E_r_16) H.g71 rfl rfl rfl rfl ?_
      refine g_v1 (t := 21) (u := (.bool r_16)) (.bool (!r_16)) rfl rfl rfl ?_
      refine g_end ?_
      refine e_end ?_
      refine renew [(1, (Enc.enc (program_2 : List Int))), (2, (.ref (.bx 2) 0 [] (.agg [(.int .i64 g_1.1), (Enc.enc (g_1.2 : List (Int × Int)))]))), (4, (.bool false)), (5, (.ref (.bx 5) 0 [] (.agg [(Enc.enc (s_8 : List Int)), (Enc.enc (s_9 : List Int))]))), (6, (.int .i64 i_10)), (22, (.bool (!r_16)))] ⟨h1, h2, h4, h5, h6, rfl⟩ ?_
      rintro s ⟨h1, h2, h4, h5, h6, h22⟩
      refine .nsq ?_
      refine run_cond (t := (!r_16)) h22 h (fun h => ?_) (fun h => ?_)
      · refine .seq ?_
        refine run_reg ?_
        refine e_end ?_
        refine g_v0 (.bool false) rfl rfl ?_
        refine g_end ?_
        refine e_end ?_
        refine renew [(1, (Enc.enc (program_2 : List Int))), (2, (.ref (.bx 2) 0 [] (.agg [(.int .i64 g_1.1), (Enc.enc (g_1.2 : List (Int × Int)))]))), (4, (.bool false)), (5, (.ref (.bx 5) 0 [] (.agg [(Enc.enc (s_8 : List Int)), (Enc.enc (s_9 : List Int))]))), (6, (.int .i64 i_10))] ⟨h1, h2, rfl, h5, h6⟩ ?_
        rintro s ⟨h1, h2, h4, h5, h6⟩
        refine .nsq ?_
        refine .ret ?_
        have hr := Option.some.inj h
        subst hr
        exact rrA (res_tmp h4) rfl
      · refine .skip ?_
        refine .nsq ?_
        refine run_reg ?_
        refine e_end ?_
        refine g_v1 (t := 2) (u := (.ref (.bx 2) 0 [] (.agg [(.int .i64 g_1.1), (Enc.enc (g_1.2 : List (Int × Int)))]))) (.agg [(.int .i64 g_1.1), (Enc.enc (g_1.2 : List (Int × Int)))]) h2 rfl rfl ?_
        refine g_v1 (t := 5) (u := (.ref (.bx 5) 0 [] (.agg [(Enc.enc (s_8 : List Int)), (Enc.enc (s_9 : List Int))]))) (.agg [(Enc.enc (s_8 : List Int)), (Enc.enc (s_9 : List Int))]) h5 rfl rfl ?_
        refine g_v1 (t := 1) (u := (Enc.enc (program_2 : List Int))) (Enc.enc (program_2 : List Int)) h1 rfl rfl ?_
        refine g_v1 (t := 6) (u := (.int .i64 i_10)) (.int .i64 i_10) h6 rfl rfl ?_
        obtain ⟨e_17, E_e_17, h⟩ := bind_some h
        refine g_v (.ref .sh 0 [] (.int .i64 e_17)) (ev_idx (t := .sh) (lo := 0) (xs := program_2) rfl rfl E_e_17 rfl rfl) ?_
        refine g_v1 (t := 27) (u := (.ref .sh 0 [] (.int .i64 e_17))) (.int .i64 e_17) rfl rfl rfl ?_
        obtain ⟨r_18, E_r_18, h⟩ := bind_some h
        refine g_call (m := 0) (al := true) (r := (Enc.enc (r_18 : ((List Int) × (List Int))))) [Enc.enc (g_1 : (Int × (List (Int × Int)))), Enc.enc ((s_8, s_9) : ((List Int) × (List Int))), Enc.enc (e_17 : Int)] (ta_cons (v := (.agg [(.int .i64 g_1.1), (Enc.enc (g_1.2 : List (Int × Int)))])) rfl rfl (Enc.erase_enc (g_1 : (Int × (List (Int × Int))))) (ta_cons (v := (.agg [(Enc.enc (s_8 : List Int)), (Enc.enc (s_9 : List Int))])) rfl rfl (Enc.erase_enc ((s_8, s_9) : ((List Int) × (List Int)))) (ta_cons (v := (.int .i64 e_17)) rfl rfl rfl ta_nil))) (H.c72 _ _ _ _ E_r_18) H.g72 (hal_of (ht_cons (v := (.agg [(.int .i64 g_1.1), (Enc.enc (g_1.2 : List (Int × Int)))])) rfl rfl rfl (ht_cons (v := (.agg [(Enc.enc (s_8 : List Int)), (Enc.enc (s_9 : List Int))])) rfl rfl rfl (ht_cons (v := (.int .i64 e_17)) rfl rfl rfl ht_nil)))) rfl rfl rfl ?_
        refine g_store (.agg [(Enc.enc (r_18.1 : List Int)), (Enc.enc (r_18.2 : List Int))]) (rd_of h5 rfl) (rd_of rfl rfl) (by refine ⟨by decide, by decide, rfl, rfl, rfl, ?_⟩; first | rfl | simp [V.toks, V.tokss, Enc.toks_enc]) ?_
        refine g_end ?_
        refine e_end ?_
        refine renew [(1, (Enc.enc (program_2 : List Int))), (2, (.ref (.bx 2) 0 [] (.agg [(.int .i64 g_1.1), (Enc.enc (g_1.2 : List (Int × Int)))]))), (4, (.bool false)), (5, (.ref (.bx 5) 0 [] (.agg [(Enc.enc (r_18.1 : List Int)), (Enc.enc (r_18.2 : List Int))]))), (6, (.int .i64 i_10))] ⟨(keep_mut h1 (Enc.mut_enc _ _ _ _ (program_2 : List Int))), (keep_mut h2 (mut_ref_ne rfl rfl (mut_agg (muts_cons rfl (muts_cons (Enc.mut_enc _ _ _ _ (g_1.2 : List (Int × Int))) rfl))))), (keep_mut h4 rfl), (keep_mut h5 rfl), (keep_mut h6 rfl)⟩ ?_
        rintro s ⟨h1, h2, h4, h5, h6⟩
        refine .nbk ?_
        refine .nsq ?_
        refine run_reg ?_
        refine e_end ?_
        refine g_v1 (t := 6) (u := (.int .i64 i_10)) (.int .i64 i_10) h6 rfl rfl ?_
        refine g_v1 (t := 13) (u := (.int .i64 i_10)) (.int .i64 (w64 (i_10 + 1))) rfl rfl rfl ?_
        refine g_v1 (t := 14) (u := (.int .i64 (w64 (i_10 + 1)))) (.int .i64 (w64 (i_10 + 1))) rfl rfl rfl ?_
        refine g_end ?_
        refine e_end ?_
        refine renew [(1, (Enc.enc (program_2 : List Int))), (2, (.ref (.bx 2) 0 [] (.agg [(.int .i64 g_1.1), (Enc.enc (g_1.2 : List (Int × Int)))]))), (4, (.bool false)), (5, (.ref (.bx 5) 0 [] (.agg [(Enc.enc (r_18.1 : List Int)), (Enc.enc (r_18.2 : List Int))]))), (6, (.int .i64 (w64 (i_10 + 1))))] ⟨h1, h2, h4, h5, rfl⟩ ?_
        rintro s ⟨h1, h2, h4, h5, h6⟩
        refine .nlp ?_
        exact ih r_18.1 r_18.2 (w64 (i_10 + 1)) _ ⟨h1, h2, h4, h5, h6⟩ h
    · refine .exit ?_
      refine .esq ?_
      refine .elp ?_
      refine .ebk ?_
      refine .nsq ?_
      refine .seq ?_
      refine run_reg ?_
      refine e_end ?_
      refine g_v1 (t := 1) (u := (Enc.enc (program_2 : List Int))) (Enc.enc (program_2 : List Int)) h1 rfl rfl ?_
      refine g_v (.int .i64 (program_2.length : Int)) (ev_len (xs := program_2) rfl) ?_
      refine g_v1 (t := 31) (u := (.int .i64 (program_2.length : Int))) (.bool (decide ((program_2.length : Int) ≤ 40))) rfl rfl rfl ?_
      refine g_v1 (t := 32) (u := (.bool (decide ((program_2.length : Int) ≤ 40)))) (.bool (decide ((program_2.length : Int) ≤ 40))) rfl rfl rfl ?_
      refine g_end ?_
      refine e_end ?_
      refine renew [(4, (.bool (decide ((program_2.length : Int) ≤ 40))))] rfl ?_
      rintro s h4
      refine .nsq ?_
      refine .ret ?_
      have hr := Option.some.inj h
      subst hr
      exact rrA (res_tmp h4) rfl
def s_l6Program (F : Nat) (g_1 : (Int × (List (Int × Int)))) (program_2 : (List Int)) : Option Bool :=
  (s_l6Begin F g_1).bind fun r_3 =>
  s_l6Program_l1 F program_2 g_1 F r_3.1 r_3.2 0
theorem t43 (H : H43 D σ F) (g_1 : (Int × (List (Int × Int)))) (program_2 : (List Int)) (s : Nat → V) (hs : Facts [(0, (.agg [(.int .i64 g_1.1), (Enc.enc (g_1.2 : List (Int × Int)))])), (1, (Enc.enc (program_2 : List Int)))] s) (h : s_l6Program F g_1 program_2 = some r) : Run D σ (R43 r) (.run A43 []) s := by
  unfold s_l6Program at h
  obtain ⟨h0, h1⟩ := hs
  refine .seq ?_
  refine run_reg ?_
  refine e_clr ?_
  refine e_end ?_
  refine g_box (.agg [(.int .i64 g_1.1), (Enc.enc (g_1.2 : List (Int × Int)))]) (rd_of (keep_clear (s := s) (pk := [2]) h0 rfl (map_agg (maps_cons rfl (maps_cons (Enc.map_enc _ (g_1.2 : List (Int × Int))) maps_nil)))) rfl) (gone_clear (s := s) (pk := [2]) (t := 2) rfl) rfl ?_
  refine g_v0 (.bool false) rfl rfl ?_
  refine g_end ?_
  refine e_end ?_
  refine renew [(1, (Enc.enc (program_2 : List Int))), (2, (.ref (.bx 2) 0 [] (.agg [(.int .i64 g_1.1), (Enc.enc (g_1.2 : List (Int × Int)))]))), (4, (.bool false))] ⟨(keep_clear (s := s) (pk := [2]) h1 rfl (Enc.map_enc _ (program_2 : List Int))), rfl, rfl⟩ ?_
  rintro s ⟨h1, h2, h4⟩
  refine .nsq ?_
  refine .seq ?_
  refine run_reg ?_
  refine e_clr ?_
  refine e_end ?_
  refine g_v1 (t := 2) (u := (.ref (.bx 2) 0 [] (.agg [(.int .i64 g_1.1), (Enc.enc (g_1.2 : List (Int × Int)))]))) (.agg [(.int .i64 g_1.1), (Enc.enc (g_1.2 : List (Int × Int)))]) (keep_clear (s := s) (pk := [5]) h2 rfl (map_bx rfl (map_agg (maps_cons rfl (maps_cons (Enc.map_enc _ (g_1.2 : List (Int × Int))) maps_nil))))) rfl rfl ?_
  obtain ⟨r_3, E_r_3, h⟩ := bind_some h
  refine g_call (m := 0) (al := true) (r := (Enc.enc (r_3 : ((List Int) × (List Int))))) [Enc.enc (g_1 : (Int × (List (Int × Int))))] (ta_cons (v := (.agg [(.int .i64 g_1.1), (Enc.enc (g_1.2 : List (Int × Int)))])) rfl rfl (Enc.erase_enc (g_1 : (Int × (List (Int × Int))))) ta_nil) (H.c70 _ _ E_r_3) H.g70 (hal_of (ht_cons (v := (.agg [(.int .i64 g_1.1), (Enc.enc (g_1.2 : List (Int × Int)))])) rfl rfl rfl ht_nil)) rfl rfl rfl ?_
  refine g_alloc (gone_clear (s := s) (pk := [5]) (t := 5) rfl) ?_
  refine g_store (.agg [(Enc.enc (r_3.1 : List Int)), (Enc.enc (r_3.2 : List Int))]) (rd_of rfl rfl) (rd_of rfl rfl) (by refine ⟨by decide, by decide, rfl, rfl, rfl, ?_⟩; first | rfl | simp [V.toks, V.tokss, Enc.toks_enc]) ?_
  refine g_end ?_
  refine e_end ?_
  refine renew [(1, (Enc.enc (program_2 : List Int))), (2, (.ref (.bx 2) 0 [] (.agg [(.int .i64 g_1.1), (Enc.enc (g_1.2 : List (Int × Int)))]))), (4, (.bool false)), (5, (.ref (.bx 5) 0 [] (.agg [(Enc.enc (r_3.1 : List Int)), (Enc.enc (r_3.2 : List Int))])))] ⟨(keep_mut (keep_clear (s := s) (pk := [5]) h1 rfl (Enc.map_enc _ (program_2 : List Int))) (Enc.mut_enc _ _ _ _ (program_2 : List Int))), (keep_mut (keep_clear (s := s) (pk := [5]) h2 rfl (map_bx rfl (map_agg (maps_cons rfl (maps_cons (Enc.map_enc _ (g_1.2 : List (Int × Int))) maps_nil))))) (mut_ref_ne rfl rfl (mut_agg (muts_cons rfl (muts_cons (Enc.mut_enc _ _ _ _ (g_1.2 : List (Int × Int))) rfl))))), (keep_mut (keep_clear (s := s) (pk := [5]) h4 rfl rfl) rfl), (keep_mut rfl rfl)⟩ ?_
  rintro s ⟨h1, h2, h4, h5⟩
  refine .nsq ?_
  refine .seq ?_
  refine .seq ?_
  refine run_reg ?_
  refine e_end ?_
  refine g_v0 (.int .i64 0) rfl rfl ?_
  refine g_end ?_
  refine e_end ?_
  refine renew [(1, (Enc.enc (program_2 : List Int))), (2, (.ref (.bx 2) 0 [] (.agg [(.int .i64 g_1.1), (Enc.enc (g_1.2 : List (Int × Int)))]))), (4, (.bool false)), (5, (.ref (.bx 5) 0 [] (.agg [(Enc.enc (r_3.1 : List Int)), (Enc.enc (r_3.2 : List Int))]))), (6, (.int .i64 0))] ⟨h1, h2, h4, h5, rfl⟩ ?_
  rintro s ⟨h1, h2, h4, h5, h6⟩
  refine .nsq ?_
  refine .block ?_
  refine .loop ?_
  exact t_f43_l1 H program_2 g_1 F r_3.1 r_3.2 0 _ ⟨h1, h2, h4, h5, h6⟩ h
end
def e43 (F : Nat) : Ent := ⟨43, da (fun (x : ((Int × (List (Int × Int))) × (List Int) × Unit)) => s_l6Program F x.1 x.2.1) (fun (r : Bool) => (Enc.enc (r : Bool))), 0, false, selF []⟩
theorem p43 {F : Nat} {x0 : (Int × (List (Int × Int)))} {x1 : (List Int)} {r : Bool} (h : s_l6Program F x0 x1 = some r) : (e43 F).den [Enc.enc x0, Enc.enc x1] = some (Enc.enc (r : Bool)) := da_put (f := fun (x : ((Int × (List (Int × Int))) × (List Int) × Unit)) => s_l6Program F x.1 x.2.1) (t := fun (r : Bool) => (Enc.enc (r : Bool))) (x0, x1, ()) h
theorem o43 {D : Den} {σ : Sig} {F : Nat} (hF : Fits2 Try.prog D σ) (H : H43 D σ F) : (e43 F).Ok Try.prog := by
  refine ⟨fun args r h => ?_, ⟨Try.f43, Try.func43, rfl, rfl⟩⟩
  obtain ⟨⟨x0, x1, _⟩, y, rfl, hy, rfl⟩ := da_open h
  exact contract_run hF (by kernel_rfl) Try.func43 rfl c43 (show 2 ≤ Try.f43.ntmps by decide) (t43 H x0 x1 _ ⟨rfl, rfl⟩ hy)
/- loop.example/g01109/spec.l6States -/
def A44_2 : AC := (AC.cond (O.t 13) AC.skip (AC.exit 0))
def A44_4 : AC := (AC.reg [] [(I.mk (some 14) none false (X.v (A.mov (O.t 6)))), (I.mk (some 15) none false (X.v (A.bin BinOp.add (O.t 14) (O.k (V.int IntKind.i64 (Int.ofNat 1)))))), (I.mk (some 6) none false (X.v (A.mov (O.t 15))))] [])
def A44_3 : AC := (AC.seq (AC.block 1 (AC.reg [.clr [27, 28]] [(I.mk (some 16) none false (X.v (A.mov (O.t 5)))), (I.mk (some 17) none false (X.v (A.load (Sh.ag [Sh.s, Sh.p]) (O.t 2)))), (I.mk (some 18) none false (X.v (A.mov (O.t 5)))), (I.mk (some 19) none false (X.v (A.mov (O.t 6)))), (I.mk (some 20) none false (X.v (A.idx (O.t 18) (O.t 19) 2))), (I.mk (some 21) none false (X.v (A.load (Sh.ag [Sh.p, Sh.p]) (O.t 20)))), (I.mk (some 22) none false (X.v (A.mov (O.t 1)))), (I.mk (some 23) none false (X.v (A.mov (O.t 6)))), (I.mk (some 24) none false (X.v (A.idx (O.t 22) (O.t 23) 1))), (I.mk (some 25) none false (X.v (A.load Sh.s (O.t 24)))), (I.mk (some 26) none false (X.call (O.k (V.fn 72 [] [])) [(O.t 17), (O.t 21), (O.t 25)])), (I.mk (some 27) none false (X.lit (V.agg [(V.sl Tok.nl Sh.s 0 []), (V.sl Tok.nl Sh.s 0 [])]) 1 [(0, 0, (O.t 26))])), (I.mk (some 28) none false (X.app (Sh.ag [Sh.p, Sh.p]) (O.t 16) (O.t 27))), (I.mk (some 5) none false (X.v (A.mov (O.t 28))))] [.home 28 5])) A44_4)
def A44_1 : AC := (AC.seq (AC.seq (AC.reg [] [(I.mk (some 10) none false (X.v (A.mov (O.t 6)))), (I.mk (some 11) none false (X.v (A.mov (O.t 1)))), (I.mk (some 12) none false (X.v (A.len (O.t 11)))), (I.mk (some 13) none false (X.v (A.bin BinOp.lss (O.t 10) (O.t 12))))] []) A44_2) A44_3)
def A44_5 : AC := (AC.seq (AC.reg [] [(I.mk (some 29) none false (X.v (A.mov (O.t 5)))), (I.mk (some 4) none false (X.v (A.mov (O.t 29))))] [.home 5 4]) AC.ret)
def A44_8 : AC := (AC.block 0 (AC.loop A44_1))
def A44_7 : AC := (AC.seq (AC.seq (AC.reg [] [(I.mk (some 6) none false (X.v (A.mov (O.k (V.int IntKind.i64 (Int.ofNat 0))))))] []) A44_8) A44_5)
def A44_6 : AC := (AC.seq (AC.reg [.clr [9]] [(I.mk (some 7) none false (X.v (A.load (Sh.ag [Sh.s, Sh.p]) (O.t 2)))), (I.mk (some 8) none false (X.call (O.k (V.fn 70 [] [])) [(O.t 7)])), (I.mk (some 9) none false (X.lit (V.agg [(V.sl Tok.nl Sh.s 0 []), (V.sl Tok.nl Sh.s 0 [])]) 1 [(0, 0, (O.t 8))])), (I.mk (some 5) none false (X.v (A.mov (O.t 9))))] [.home 9 5]) A44_7)
def A44 : AC := (AC.seq (AC.reg [.clr [2]] [(I.mk (some 2) none false (X.box (O.t 0))), (I.mk (some 4) none false (X.v (A.mov (O.k (V.sl Tok.nl (Sh.ag [Sh.p, Sh.p]) 0 [])))))] []) A44_6)
def an44 : List An := [{ id := 0, pre := [.clr [2]], ep := [], lin := [], sp := [] }, { id := 1, pre := [.clr [9]], ep := [.home 9 5], lin := [], sp := [] }, { id := 5, pre := [.clr [27, 28]], ep := [.home 28 5], lin := [], sp := [] }, { id := 6, pre := [], ep := [.home 5 4], lin := [], sp := [] }]
theorem c44 : cC Try.prog Try.f44.ntmps an44 (Try.f44.body.getD .skip) = some A44 := by kernel_rfl
structure H44 (D : Den) (σ : Sig) (F : Nat) : Prop where
  c70 : ∀ (x0 : (Int × (List (Int × Int)))) r, s_l6Begin F x0 = some r → D 70 [Enc.enc x0] = some (Enc.enc (r : ((List Int) × (List Int))))
  g70 : σ 70 = some (0, true)
  c72 : ∀ (x0 : (Int × (List (Int × Int)))) (x1 : ((List Int) × (List Int))) (x2 : Int) r, s_l6Step F x0 x1 x2 = some r → D 72 [Enc.enc x0, Enc.enc x1, Enc.enc x2] = some (Enc.enc (r : ((List Int) × (List Int))))
  g72 : σ 72 = some (0, true)
abbrev R44 (r : (List ((List Int) × (List Int)))) : (Nat → V) → Prop := RR Try.prog [.tmp 4] 0 true (Enc.enc (r : (List ((List Int) × (List Int)))))
section
variable {D : Den} {σ : Sig} {F : Nat} {r : (List ((List Int) × (List Int)))}
def s_l6States_l1 (F : Nat) (program_2 : (List Int)) (g_1 : (Int × (List (Int × Int))))  : Nat → (List ((List Int) × (List Int))) → Int → Option (List ((List Int) × (List Int)))
  | 0, _, _ => none
  | k + 1, out_8, i_9 =>
    bif decide (i_9 < (program_2.length : Int)) then
      (idx out_8 i_9).bind fun e_14 =>
      (idx program_2 i_9).bind fun e_15 =>
      (s_l6Step F g_1 e_14 e_15).bind fun r_16 =>
      (appL out_8 [r_16]).bind fun ap_17 =>
      (s_l6States_l1 F program_2 g_1 k) ap_17 (w64 (i_9 + 1))
    else
      some out_8
theorem t_f44_l1 (H : H44 D σ F) (program_2 : (List Int)) (g_1 : (Int × (List (Int × Int))))  : ∀ (k : Nat) (out_8 : (List ((List Int) × (List Int)))) (i_9 : Int) (s : Nat → V), Facts [(1, (Enc.enc (program_2 : List Int))), (2, (.ref (.bx 2) 0 [] (.agg [(.int .i64 g_1.1), (Enc.enc (g_1.2 : List (Int × Int)))]))), (4, (.sl .nl (Enc.shp ((List Int) × (List Int))) 0 [])), (5, (encO (.at 5 []) (.of (out_8 : List ((List Int) × (List Int)))))), (6, (.int .i64 i_9))] s → s_l6States_l1 F program_2 g_1 k out_8 i_9 = some r → Run D σ (R44 r) (.run A44_1 [.lp A44_1, .bk 0, .sq A44_5]) s := by
  intro k
  induction k with
  | zero => intro out_8 i_9 s _ h; exact nomatch (h : (none : Option _) = some r)
  | succ k ih =>
    intro out_8 i_9 s hs h
    rw [s_l6States_l1] at h
    obtain ⟨h1, h2, h4, h5, h6⟩ := hs
    refine .seq ?_
    refine .seq ?_
    refine run_reg ?_
    refine e_end ?_
    refine g_v1 (t := 6) (u := (.int .i64 i_9)) (.int .i64 i_9) h6 rfl rfl ?_
    refine g_v1 (t := 1) (u := (Enc.enc (program_2 : List Int))) (Enc.enc (program_2 : List Int)) h1 rfl rfl ?_
    refine g_v (.int .i64 (program_2.length : Int)) (ev_len (xs := program_2) rfl) ?_
    refine g_v2 (t1 := 10) (t2 := 12) (u1 := (.int .i64 i_9)) (u2 := (.int .i64 (program_2.length : Int))) (.bool (decide (i_9 < (program_2.length : Int)))) rfl rfl rfl rfl ?_
    refine g_end ?_
    refine e_end ?_
    refine renew [(1, (Enc.enc (program_2 : List Int))), (2, (.ref (.bx 2) 0 [] (.agg [(.int .i64 g_1.1), (Enc.enc (g_1.2 : List (Int × Int)))]))), (4, (.sl .nl (Enc.shp ((List Int) × (List Int))) 0 [])), (5, (encO (.at 5 []) (.of (out_8 : List ((List Int) × (List Int)))))), (6, (.int .i64 i_9)), (13, (.bool (decide (i_9 < (program_2.length : Int)))))] ⟨h1, h2, h4, h5, h6, rfl⟩ ?_
    rintro s ⟨h1, h2, h4, h5, h6, h13⟩
    refine .nsq ?_
    refine run_cond (t := decide (i_9 < (program_2.length : Int))) h13 h (fun h => ?_) (fun h => ?_)
    · refine .skip ?_
      refine .nsq ?_
      refine .seq ?_
      refine .block ?_
      refine run_reg ?_
      refine e_clr ?_
      refine e_end ?_
      refine g_v1 (t := 5) (u := (encO (.at 5 []) (.of (out_8 : List ((List Int) × (List Int)))))) (encO (.at 5 []) (.of (out_8 : List ((List Int) × (List Int))))) (keep_clear (s := s) (pk := [27, 28]) h5 rfl (map_encO (r := 5) (p := []) rfl rfl)) rfl rfl ?_
      refine g_v1 (t := 2) (u := (.ref (.bx 2) 0 [] (.agg [(.int .i64 g_1.1), (Enc.enc (g_1.2 : List (Int × Int)))]))) (.agg [(.int .i64 g_1.1), (Enc.enc (g_1.2 : List (Int × Int)))]) (keep_clear (s := s) (pk := [27, 28]) h2 rfl (map_bx rfl (map_agg (maps_cons rfl (maps_cons (Enc.map_enc _ (g_1.2 : List (Int × Int))) maps_nil))))) rfl rfl ?_
      refine g_v1 (t := 5) (u := (encO (.at 5 []) (.of (out_8 : List ((List Int) × (List Int)))))) (encO (.at 5 []) (.of (out_8 : List ((List Int) × (List Int))))) (keep_clear (s := s) (pk := [27, 28]) h5 rfl (map_encO (r := 5) (p := []) rfl rfl)) rfl rfl ?_
      refine g_v1 (t := 6) (u := (.int .i64 i_9)) (.int .i64 i_9) (keep_clear (s := s) (pk := [27, 28]) h6 rfl rfl) rfl rfl ?_
      obtain ⟨e_14, E_e_14, h⟩ := bind_some h
      refine g_v (.ref (.at 5 []) i_9.toNat [] (.agg [(Enc.enc (e_14.1 : List Int)), (Enc.enc (e_14.2 : List Int))])) (ev_idxO (o := (.of out_8)) rfl rfl E_e_14 rfl) ?_
      refine g_v1 (t := 20) (u := (.ref (.at 5 []) i_9.toNat [] (.agg [(Enc.enc (e_14.1 : List Int)), (Enc.enc (e_14.2 : List Int))]))) (.agg [(Enc.enc (e_14.1 : List Int)), (Enc.enc (e_14.2 : List Int))]) rfl rfl rfl ?_
      refine g_v1 (t := 1) (u := (Enc.enc (program_2 : List Int))) (Enc.enc (program_2 : List Int)) (keep_clear (s := s) (pk := [27, 28]) h1 rfl (Enc.map_enc _ (program_2 : List Int))) rfl rfl ?_
      refine g_v1 (t := 6) (u := (.int .i64 i_9)) (.int .i64 i_9) (keep_clear (s := s) (pk := [27, 28]) h6 rfl rfl) rfl rfl ?_
      obtain ⟨e_15, E_e_15, h⟩ := bind_some h
      refine g_v (.ref .sh 0 [] (.int .i64 e_15)) (ev_idx (t := .sh) (lo := 0) (xs := program_2) rfl rfl E_e_15 rfl rfl) ?_
      refine g_v1 (t := 24) (u := (.ref .sh 0 [] (.int .i64 e_15))) (.int .i64 e_15) rfl rfl rfl ?_
      obtain ⟨r_16, E_r_16, h⟩ := bind_some h
      refine g_call (m := 0) (al := true) (r := (Enc.enc (r_16 : ((List Int) × (List Int))))) [Enc.enc (g_1 : (Int × (List (Int × Int)))), Enc.enc (e_14 : ((List Int) × (List Int))), Enc.enc (e_15 : Int)] (ta_cons (v := (.agg [(.int .i64 g_1.1), (Enc.enc (g_1.2 : List (Int × Int)))])) rfl rfl (Enc.erase_enc (g_1 : (Int × (List (Int × Int))))) (ta_cons (v := (.agg [(Enc.enc (e_14.1 : List Int)), (Enc.enc (e_14.2 : List Int))])) rfl rfl (Enc.erase_enc (e_14 : ((List Int) × (List Int)))) (ta_cons (v := (.int .i64 e_15)) rfl rfl rfl ta_nil))) (H.c72 _ _ _ _ E_r_16) H.g72 (hal_of (ht_cons (v := (.agg [(.int .i64 g_1.1), (Enc.enc (g_1.2 : List (Int × Int)))])) rfl rfl rfl (ht_cons (v := (.agg [(Enc.enc (e_14.1 : List Int)), (Enc.enc (e_14.2 : List Int))])) rfl rfl rfl (ht_cons (v := (.int .i64 e_15)) rfl rfl rfl ht_nil)))) rfl rfl rfl ?_
      refine g_litL [(26, (.agg [(Enc.enc (r_16.1 : List Int)), (Enc.enc (r_16.2 : List Int))]))] [Enc.enc (r_16 : ((List Int) × (List Int)))] rfl rfl rfl (gone_clear (s := s) (pk := [27, 28]) (t := 27) rfl) ?_
      obtain ⟨ap_17, E_ap_17, h⟩ := bind_some h
      refine g_app (q := 5) (p := []) (o := (.of (out_8 : List ((List Int) × (List Int))))) (ys := ([r_16] : List ((List Int) × (List Int)))) (t2 := (.at 27 [])) (lo2 := 0) rfl rfl rfl (gone_clear (s := s) (pk := [27, 28]) (t := 28) rfl) (appN_L (o := (.of (out_8 : List ((List Int) × (List Int))))) E_ap_17 trivial) (fun s_11 ha_11 => ?_)
      refine g_v1 (t := 28) (u := (encO (.at 28 []) (.of (ap_17 : List ((List Int) × (List Int)))))) (encO (.at 28 []) (.of (ap_17 : List ((List Int) × (List Int))))) rfl rfl rfl ?_
      refine g_end ?_
      refine e_home (r := 28) (x := 5) (v := (encO (.at 28 []) (.of (ap_17 : List ((List Int) × (List Int)))))) (by exact rfl) rfl (fun s_12 hg_12 => ?_)
      refine e_end ?_
      refine renew [(1, (Enc.enc (program_2 : List Int))), (2, (.ref (.bx 2) 0 [] (.agg [(.int .i64 g_1.1), (Enc.enc (g_1.2 : List (Int × Int)))]))), (4, (.sl .nl (Enc.shp ((List Int) × (List Int))) 0 [])), (5, (encO (.at 5 []) (.of (ap_17 : List ((List Int) × (List Int)))))), (6, (.int .i64 i_9))] ⟨(hg_12 1 (Enc.enc (program_2 : List Int)) (Enc.enc (program_2 : List Int)) (show s_11 1 = (Enc.enc (program_2 : List Int)) from keep_app ha_11 (keep_clear (s := s) (pk := [27, 28]) h1 rfl (Enc.map_enc _ (program_2 : List Int))) (Enc.map_enc _ (program_2 : List Int))) (Enc.map_enc _ (program_2 : List Int))), (hg_12 2 (.ref (.bx 2) 0 [] (.agg [(.int .i64 g_1.1), (Enc.enc (g_1.2 : List (Int × Int)))])) (.ref (.bx 2) 0 [] (.agg [(.int .i64 g_1.1), (Enc.enc (g_1.2 : List (Int × Int)))])) (show s_11 2 = (.ref (.bx 2) 0 [] (.agg [(.int .i64 g_1.1), (Enc.enc (g_1.2 : List (Int × Int)))])) from keep_app ha_11 (keep_clear (s := s) (pk := [27, 28]) h2 rfl (map_bx rfl (map_agg (maps_cons rfl (maps_cons (Enc.map_enc _ (g_1.2 : List (Int × Int))) maps_nil))))) (map_bx rfl (map_agg (maps_cons rfl (maps_cons (Enc.map_enc _ (g_1.2 : List (Int × Int))) maps_nil))))) (map_bx rfl (map_agg (maps_cons rfl (maps_cons (Enc.map_enc _ (g_1.2 : List (Int × Int))) maps_nil))))), (hg_12 4 (.sl .nl (Enc.shp ((List Int) × (List Int))) 0 []) (.sl .nl (Enc.shp ((List Int) × (List Int))) 0 []) (show s_11 4 = (.sl .nl (Enc.shp ((List Int) × (List Int))) 0 []) from keep_app ha_11 (keep_clear (s := s) (pk := [27, 28]) h4 rfl rfl) rfl) rfl), (hg_12 5 (encO (.at 28 []) (.of (ap_17 : List ((List Int) × (List Int))))) (encO (.at 5 []) (.of (ap_17 : List ((List Int) × (List Int))))) rfl (map_encO (r := 28) (p := []) rfl rfl)), (hg_12 6 (.int .i64 i_9) (.int .i64 i_9) (show s_11 6 = (.int .i64 i_9) from keep_app ha_11 (keep_clear (s := s) (pk := [27, 28]) h6 rfl rfl) rfl) rfl)⟩ ?_
      rintro s ⟨h1, h2, h4, h5, h6⟩
      refine .nbk ?_
      refine .nsq ?_
      refine run_reg ?_
      refine e_end ?_
      refine g_v1 (t := 6) (u := (.int .i64 i_9)) (.int .i64 i_9) h6 rfl rfl ?_
      refine g_v1 (t := 14) (u := (.int .i64 i_9)) (.int .i64 (w64 (i_9 + 1))) rfl rfl rfl ?_
      refine g_v1 (t := 15) (u := (.int .i64 (w64 (i_9 + 1)))) (.int .i64 (w64 (i_9 + 1))) rfl rfl rfl ?_
      refine g_end ?_
      refine e_end ?_
      refine renew [(1, (Enc.enc (program_2 : List Int))), (2, (.ref (.bx 2) 0 [] (.agg [(.int .i64 g_1.1), (Enc.enc (g_1.2 : List (Int × Int)))]))), (4, (.sl .nl (Enc.shp ((List Int) × (List Int))) 0 [])), (5, (encO (.at 5 []) (.of (ap_17 : List ((List Int) × (List Int)))))), (6, (.int .i64 (w64 (i_9 + 1))))] ⟨h1, h2, h4, h5, rfl⟩ ?_
      rintro s ⟨h1, h2, h4, h5, h6⟩
      refine .nlp ?_
      exact ih ap_17 (w64 (i_9 + 1)) _ ⟨h1, h2, h4, h5, h6⟩ h
    · refine .exit ?_
      refine .esq ?_
      refine .elp ?_
      refine .ebk ?_
      refine .nsq ?_
      refine .seq ?_
      refine run_reg ?_
      refine e_end ?_
      refine g_v1 (t := 5) (u := (encO (.at 5 []) (.of (out_8 : List ((List Int) × (List Int)))))) (encO (.at 5 []) (.of (out_8 : List ((List Int) × (List Int))))) h5 rfl rfl ?_
      refine g_v1 (t := 29) (u := (encO (.at 5 []) (.of (out_8 : List ((List Int) × (List Int)))))) (encO (.at 5 []) (.of (out_8 : List ((List Int) × (List Int))))) rfl rfl rfl ?_
      refine g_end ?_
      refine e_home (r := 5) (x := 4) (v := (encO (.at 5 []) (.of (out_8 : List ((List Int) × (List Int)))))) (by exact rfl) rfl (fun s_13 hg_13 => ?_)
      refine e_end ?_
      refine renew [(4, (encO (.at 4 []) (.of (out_8 : List ((List Int) × (List Int))))))] (hg_13 4 (encO (.at 5 []) (.of (out_8 : List ((List Int) × (List Int))))) (encO (.at 4 []) (.of (out_8 : List ((List Int) × (List Int))))) rfl (map_encO (r := 5) (p := []) rfl rfl)) ?_
      rintro s h4
      refine .nsq ?_
      refine .ret ?_
      have hr := Option.some.inj h
      subst hr
      exact rrA (res_tmp h4) (fin_ret1 (fin_own (o := .of out_8)))
def s_l6States (F : Nat) (g_1 : (Int × (List (Int × Int)))) (program_2 : (List Int)) : Option (List ((List Int) × (List Int))) :=
  (s_l6Begin F g_1).bind fun r_3 =>
  s_l6States_l1 F program_2 g_1 F [r_3] 0
theorem t44 (H : H44 D σ F) (g_1 : (Int × (List (Int × Int)))) (program_2 : (List Int)) (s : Nat → V) (hs : Facts [(0, (.agg [(.int .i64 g_1.1), (Enc.enc (g_1.2 : List (Int × Int)))])), (1, (Enc.enc (program_2 : List Int)))] s) (h : s_l6States F g_1 program_2 = some r) : Run D σ (R44 r) (.run A44 []) s := by
  unfold s_l6States at h
  obtain ⟨h0, h1⟩ := hs
  refine .seq ?_
  refine run_reg ?_
  refine e_clr ?_
  refine e_end ?_
  refine g_box (.agg [(.int .i64 g_1.1), (Enc.enc (g_1.2 : List (Int × Int)))]) (rd_of (keep_clear (s := s) (pk := [2]) h0 rfl (map_agg (maps_cons rfl (maps_cons (Enc.map_enc _ (g_1.2 : List (Int × Int))) maps_nil)))) rfl) (gone_clear (s := s) (pk := [2]) (t := 2) rfl) rfl ?_
  refine g_v0 (.sl .nl (Enc.shp ((List Int) × (List Int))) 0 []) rfl rfl ?_
  refine g_end ?_
  refine e_end ?_
  refine renew [(1, (Enc.enc (program_2 : List Int))), (2, (.ref (.bx 2) 0 [] (.agg [(.int .i64 g_1.1), (Enc.enc (g_1.2 : List (Int × Int)))]))), (4, (.sl .nl (Enc.shp ((List Int) × (List Int))) 0 []))] ⟨(keep_clear (s := s) (pk := [2]) h1 rfl (Enc.map_enc _ (program_2 : List Int))), rfl, rfl⟩ ?_
  rintro s ⟨h1, h2, h4⟩
  refine .nsq ?_
  refine .seq ?_
  refine run_reg ?_
  refine e_clr ?_
  refine e_end ?_
  refine g_v1 (t := 2) (u := (.ref (.bx 2) 0 [] (.agg [(.int .i64 g_1.1), (Enc.enc (g_1.2 : List (Int × Int)))]))) (.agg [(.int .i64 g_1.1), (Enc.enc (g_1.2 : List (Int × Int)))]) (keep_clear (s := s) (pk := [9]) h2 rfl (map_bx rfl (map_agg (maps_cons rfl (maps_cons (Enc.map_enc _ (g_1.2 : List (Int × Int))) maps_nil))))) rfl rfl ?_
  obtain ⟨r_3, E_r_3, h⟩ := bind_some h
  refine g_call (m := 0) (al := true) (r := (Enc.enc (r_3 : ((List Int) × (List Int))))) [Enc.enc (g_1 : (Int × (List (Int × Int))))] (ta_cons (v := (.agg [(.int .i64 g_1.1), (Enc.enc (g_1.2 : List (Int × Int)))])) rfl rfl (Enc.erase_enc (g_1 : (Int × (List (Int × Int))))) ta_nil) (H.c70 _ _ E_r_3) H.g70 (hal_of (ht_cons (v := (.agg [(.int .i64 g_1.1), (Enc.enc (g_1.2 : List (Int × Int)))])) rfl rfl rfl ht_nil)) rfl rfl rfl ?_
  refine g_litL [(8, (.agg [(Enc.enc (r_3.1 : List Int)), (Enc.enc (r_3.2 : List Int))]))] [Enc.enc (r_3 : ((List Int) × (List Int)))] rfl rfl rfl (gone_clear (s := s) (pk := [9]) (t := 9) rfl) ?_
  refine g_v1 (t := 9) (u := (encO (.at 9 []) (.of ([r_3] : List ((List Int) × (List Int)))))) (encO (.at 9 []) (.of ([r_3] : List ((List Int) × (List Int))))) rfl rfl rfl ?_
  refine g_end ?_
  refine e_home (r := 9) (x := 5) (v := (encO (.at 9 []) (.of ([r_3] : List ((List Int) × (List Int)))))) (by exact rfl) rfl (fun s_3 hg_3 => ?_)
  refine e_end ?_
  refine renew [(1, (Enc.enc (program_2 : List Int))), (2, (.ref (.bx 2) 0 [] (.agg [(.int .i64 g_1.1), (Enc.enc (g_1.2 : List (Int × Int)))]))), (4, (.sl .nl (Enc.shp ((List Int) × (List Int))) 0 [])), (5, (encO (.at 5 []) (.of ([r_3] : List ((List Int) × (List Int))))))] ⟨(hg_3 1 (Enc.enc (program_2 : List Int)) (Enc.enc (program_2 : List Int)) (keep_clear (s := s) (pk := [9]) h1 rfl (Enc.map_enc _ (program_2 : List Int))) (Enc.map_enc _ (program_2 : List Int))), (hg_3 2 (.ref (.bx 2) 0 [] (.agg [(.int .i64 g_1.1), (Enc.enc (g_1.2 : List (Int × Int)))])) (.ref (.bx 2) 0 [] (.agg [(.int .i64 g_1.1), (Enc.enc (g_1.2 : List (Int × Int)))])) (keep_clear (s := s) (pk := [9]) h2 rfl (map_bx rfl (map_agg (maps_cons rfl (maps_cons (Enc.map_enc _ (g_1.2 : List (Int × Int))) maps_nil))))) (map_bx rfl (map_agg (maps_cons rfl (maps_cons (Enc.map_enc _ (g_1.2 : List (Int × Int))) maps_nil))))), (hg_3 4 (.sl .nl (Enc.shp ((List Int) × (List Int))) 0 []) (.sl .nl (Enc.shp ((List Int) × (List Int))) 0 []) (keep_clear (s := s) (pk := [9]) h4 rfl rfl) rfl), (hg_3 5 (encO (.at 9 []) (.of ([r_3] : List ((List Int) × (List Int))))) (encO (.at 5 []) (.of ([r_3] : List ((List Int) × (List Int))))) rfl (map_encO (r := 9) (p := []) rfl rfl))⟩ ?_
  rintro s ⟨h1, h2, h4, h5⟩
  refine .nsq ?_
  refine .seq ?_
  refine .seq ?_
  refine run_reg ?_
  refine e_end ?_
  refine g_v0 (.int .i64 0) rfl rfl ?_
  refine g_end ?_
  refine e_end ?_
  refine renew [(1, (Enc.enc (program_2 : List Int))), (2, (.ref (.bx 2) 0 [] (.agg [(.int .i64 g_1.1), (Enc.enc (g_1.2 : List (Int × Int)))]))), (4, (.sl .nl (Enc.shp ((List Int) × (List Int))) 0 [])), (5, (encO (.at 5 []) (.of ([r_3] : List ((List Int) × (List Int)))))), (6, (.int .i64 0))] ⟨h1, h2, h4, h5, rfl⟩ ?_
  rintro s ⟨h1, h2, h4, h5, h6⟩
  refine .nsq ?_
  refine .block ?_
  refine .loop ?_
  exact t_f44_l1 H program_2 g_1 F [r_3] 0 _ ⟨h1, h2, h4, h5, h6⟩ h
end
def e44 (F : Nat) : Ent := ⟨44, da (fun (x : ((Int × (List (Int × Int))) × (List Int) × Unit)) => s_l6States F x.1 x.2.1) (fun (r : (List ((List Int) × (List Int)))) => (Enc.enc (r : (List ((List Int) × (List Int)))))), 0, true, selF []⟩
theorem p44 {F : Nat} {x0 : (Int × (List (Int × Int)))} {x1 : (List Int)} {r : (List ((List Int) × (List Int)))} (h : s_l6States F x0 x1 = some r) : (e44 F).den [Enc.enc x0, Enc.enc x1] = some (Enc.enc (r : (List ((List Int) × (List Int))))) := da_put (f := fun (x : ((Int × (List (Int × Int))) × (List Int) × Unit)) => s_l6States F x.1 x.2.1) (t := fun (r : (List ((List Int) × (List Int)))) => (Enc.enc (r : (List ((List Int) × (List Int)))))) (x0, x1, ()) h
theorem o44 {D : Den} {σ : Sig} {F : Nat} (hF : Fits2 Try.prog D σ) (H : H44 D σ F) : (e44 F).Ok Try.prog := by
  refine ⟨fun args r h => ?_, ⟨Try.f44, Try.func44, rfl, rfl⟩⟩
  obtain ⟨⟨x0, x1, _⟩, y, rfl, hy, rfl⟩ := da_open h
  exact contract_run hF (by kernel_rfl) Try.func44 rfl c44 (show 2 ≤ Try.f44.ntmps by decide) (t44 H x0 x1 _ ⟨rfl, rfl⟩ hy)
/- loop.example/g01109/spec.l1Most -/
def A49_2 : AC := (AC.cond (O.t 7) (AC.seq (AC.reg [] [(I.mk (some 8) none false (X.v (A.mov (O.t 0)))), (I.mk (some 4) none false (X.v (A.mov (O.t 8))))] []) AC.ret) AC.skip)
def A49_3 : AC := (AC.seq (AC.reg [] [(I.mk (some 9) none false (X.v (A.mov (O.t 1)))), (I.mk (some 4) none false (X.v (A.mov (O.t 9))))] []) AC.ret)
def A49_1 : AC := (AC.seq (AC.seq (AC.reg [] [(I.mk (some 5) none false (X.v (A.mov (O.t 0)))), (I.mk (some 6) none false (X.v (A.mov (O.t 1)))), (I.mk (some 7) none false (X.v (A.bin BinOp.gtr (O.t 5) (O.t 6))))] []) A49_2) A49_3)
def A49 : AC := (AC.seq (AC.reg [] [(I.mk (some 4) none false (X.v (A.mov (O.k (V.int IntKind.i64 (Int.ofNat 0))))))] []) A49_1)
def an49 : List An := []
theorem c49 : cC Try.prog Try.f49.ntmps an49 (Try.f49.body.getD .skip) = some A49 := by kernel_rfl
structure H49 (D : Den) (σ : Sig) (F : Nat) : Prop where
  mk ::
abbrev R49 (r : Int) : (Nat → V) → Prop := RR Try.prog [.tmp 4] 0 false (Enc.enc (r : Int))
section
variable {D : Den} {σ : Sig} {F : Nat} {r : Int}
def s_l1Most (F : Nat) (a_1 : Int) (b_2 : Int) : Option Int :=
  bif decide (a_1 > b_2) then
    some a_1
  else
    some b_2
theorem t49 (H : H49 D σ F) (a_1 : Int) (b_2 : Int) (s : Nat → V) (hs : Facts [(0, (.int .i64 a_1)), (1, (.int .i64 b_2))] s) (h : s_l1Most F a_1 b_2 = some r) : Run D σ (R49 r) (.run A49 []) s := by
  unfold s_l1Most at h
  obtain ⟨h0, h1⟩ := hs
  refine .seq ?_
  refine run_reg ?_
  refine e_end ?_
  refine g_v0 (.int .i64 0) rfl rfl ?_
  refine g_end ?_
  refine e_end ?_
  refine renew [(0, (.int .i64 a_1)), (1, (.int .i64 b_2)), (4, (.int .i64 0))] ⟨h0, h1, rfl⟩ ?_
  rintro s ⟨h0, h1, h4⟩
  refine .nsq ?_
  refine .seq ?_
  refine .seq ?_
  refine run_reg ?_
  refine e_end ?_
  refine g_v1 (t := 0) (u := (.int .i64 a_1)) (.int .i64 a_1) h0 rfl rfl ?_
  refine g_v1 (t := 1) (u := (.int .i64 b_2)) (.int .i64 b_2) h1 rfl rfl ?_
  refine g_v2 (t1 := 5) (t2 := 6) (u1 := (.int .i64 a_1)) (u2 := (.int .i64 b_2)) (.bool (decide (a_1 > b_2))) rfl rfl rfl rfl ?_
  refine g_end ?_
  refine e_end ?_
  refine renew [(0, (.int .i64 a_1)), (1, (.int .i64 b_2)), (4, (.int .i64 0)), (7, (.bool (decide (a_1 > b_2))))] ⟨h0, h1, h4, rfl⟩ ?_
  rintro s ⟨h0, h1, h4, h7⟩
  refine .nsq ?_
  refine run_cond (t := decide (a_1 > b_2)) h7 h (fun h => ?_) (fun h => ?_)
  · refine .seq ?_
    refine run_reg ?_
    refine e_end ?_
    refine g_v1 (t := 0) (u := (.int .i64 a_1)) (.int .i64 a_1) h0 rfl rfl ?_
    refine g_v1 (t := 8) (u := (.int .i64 a_1)) (.int .i64 a_1) rfl rfl rfl ?_
    refine g_end ?_
    refine e_end ?_
    refine renew [(1, (.int .i64 b_2)), (4, (.int .i64 a_1))] ⟨h1, rfl⟩ ?_
    rintro s ⟨h1, h4⟩
    refine .nsq ?_
    refine .ret ?_
    have hr := Option.some.inj h
    subst hr
    exact rrA (res_tmp h4) rfl
  · refine .skip ?_
    refine .nsq ?_
    refine .seq ?_
    refine run_reg ?_
    refine e_end ?_
    refine g_v1 (t := 1) (u := (.int .i64 b_2)) (.int .i64 b_2) h1 rfl rfl ?_
    refine g_v1 (t := 9) (u := (.int .i64 b_2)) (.int .i64 b_2) rfl rfl rfl ?_
    refine g_end ?_
    refine e_end ?_
    refine renew [(4, (.int .i64 b_2))] rfl ?_
    rintro s h4
    refine .nsq ?_
    refine .ret ?_
    have hr := Option.some.inj h
    subst hr
    exact rrA (res_tmp h4) rfl
end
def e49 (F : Nat) : Ent := ⟨49, da (fun (x : (Int × Int × Unit)) => s_l1Most F x.1 x.2.1) (fun (r : Int) => (Enc.enc (r : Int))), 0, false, selF []⟩
theorem p49 {F : Nat} {x0 : Int} {x1 : Int} {r : Int} (h : s_l1Most F x0 x1 = some r) : (e49 F).den [Enc.enc x0, Enc.enc x1] = some (Enc.enc (r : Int)) := da_put (f := fun (x : (Int × Int × Unit)) => s_l1Most F x.1 x.2.1) (t := fun (r : Int) => (Enc.enc (r : Int))) (x0, x1, ()) h
theorem o49 {D : Den} {σ : Sig} {F : Nat} (hF : Fits2 Try.prog D σ) (H : H49 D σ F) : (e49 F).Ok Try.prog := by
  refine ⟨fun args r h => ?_, ⟨Try.f49, Try.func49, rfl, rfl⟩⟩
  obtain ⟨⟨x0, x1, _⟩, y, rfl, hy, rfl⟩ := da_open h
  exact contract_run hF (by kernel_rfl) Try.func49 rfl c49 (show 2 ≤ Try.f49.ntmps by decide) (t49 H x0 x1 _ ⟨rfl, rfl⟩ hy)
/- loop.example/g01109/spec.SearchersUsed -/
def A18_2 : AC := (AC.cond (O.t 24) AC.skip (AC.exit 0))
def A18_4 : AC := (AC.reg [] [(I.mk (some 25) none false (X.v (A.mov (O.t 8)))), (I.mk (some 26) none false (X.v (A.bin BinOp.add (O.t 25) (O.k (V.int IntKind.i64 (Int.ofNat 1)))))), (I.mk (some 8) none false (X.v (A.mov (O.t 26))))] [])
def A18_3 : AC := (AC.seq (AC.block 1 (AC.reg [] [(I.mk (some 27) none false (X.v (A.mov (O.t 6)))), (I.mk (some 28) none false (X.v (A.mov (O.t 7)))), (I.mk (some 29) none false (X.v (A.mov (O.t 8)))), (I.mk (some 30) none false (X.v (A.idx (O.t 28) (O.t 29) 2))), (I.mk (some 31) none false (X.v (A.fld (O.t 30) 0 0))), (I.mk (some 32) none false (X.v (A.load Sh.p (O.t 31)))), (I.mk (some 33) none false (X.v (A.len (O.t 32)))), (I.mk (some 34) none false (X.call (O.k (V.fn 49 [] [])) [(O.t 27), (O.t 33)])), (I.mk (some 6) none false (X.v (A.mov (O.t 34))))] [])) A18_4)
def A18_1 : AC := (AC.seq (AC.seq (AC.reg [] [(I.mk (some 21) none false (X.v (A.mov (O.t 8)))), (I.mk (some 22) none false (X.v (A.mov (O.t 7)))), (I.mk (some 23) none false (X.v (A.len (O.t 22)))), (I.mk (some 24) none false (X.v (A.bin BinOp.lss (O.t 21) (O.t 23))))] []) A18_2) A18_3)
def A18_5 : AC := (AC.seq (AC.reg [] [(I.mk (some 35) none false (X.v (A.mov (O.t 6)))), (I.mk (some 4) none false (X.v (A.mov (O.t 35)))), (I.mk (some 5) none false (X.v (A.mov (O.k (V.bool true)))))] []) AC.ret)
def A18_6 : AC := (AC.cond (O.t 17) (AC.seq (AC.reg [] [(I.mk (some 4) none false (X.v (A.mov (O.k (V.int IntKind.i64 (Int.ofNat 0)))))), (I.mk (some 5) none false (X.v (A.mov (O.k (V.bool false)))))] []) AC.ret) AC.skip)
def A18_9 : AC := (AC.block 0 (AC.loop A18_1))
def A18_8 : AC := (AC.seq (AC.seq (AC.reg [] [(I.mk (some 8) none false (X.v (A.mov (O.k (V.int IntKind.i64 (Int.ofNat 0))))))] []) A18_9) A18_5)
def A18_7 : AC := (AC.seq (AC.reg [] [(I.mk (some 18) none false (X.v (A.load (Sh.ag [Sh.s, Sh.p]) (O.t 2)))), (I.mk (some 19) none false (X.v (A.mov (O.t 1)))), (I.mk (some 20) none false (X.call (O.k (V.fn 44 [] [])) [(O.t 18), (O.t 19)])), (I.mk (some 6) none false (X.v (A.mov (O.k (V.int IntKind.i64 (Int.ofNat 0)))))), (I.mk (some 7) none false (X.v (A.mov (O.t 20))))] []) A18_8)
def A18_10 : AC := (AC.seq (AC.seq (AC.reg [] [(I.mk (some 9) none false (X.v (A.load (Sh.ag [Sh.s, Sh.p]) (O.t 2)))), (I.mk (some 10) none false (X.call (O.k (V.fn 42 [] [])) [(O.t 9)])), (I.mk (some 11) none false (X.v (A.un UnOp.not (O.t 10)))), (I.mk (some 12) none false (X.v (A.mov (O.t 11)))), (I.mk (some 13) (some (12, false)) false (X.v (A.load (Sh.ag [Sh.s, Sh.p]) (O.t 2)))), (I.mk (some 14) (some (12, false)) false (X.v (A.mov (O.t 1)))), (I.mk (some 15) (some (12, false)) false (X.call (O.k (V.fn 43 [] [])) [(O.t 13), (O.t 14)])), (I.mk (some 16) (some (12, false)) false (X.v (A.un UnOp.not (O.t 15)))), (I.mk (some 17) none false (X.v (A.pick (O.t 12) (O.k (V.bool true)) (O.t 16))))] []) A18_6) A18_7)
def A18 : AC := (AC.seq (AC.reg [.clr [2]] [(I.mk (some 2) none false (X.box (O.t 0))), (I.mk (some 4) none false (X.v (A.mov (O.k (V.int IntKind.i64 (Int.ofNat 0)))))), (I.mk (some 5) none false (X.v (A.mov (O.k (V.bool false)))))] []) A18_10)
def an18 : List An := [{ id := 0, pre := [.clr [2]], ep := [], lin := [], sp := [] }]
theorem c18 : cC Try.prog Try.f18.ntmps an18 (Try.f18.body.getD .skip) = some A18 := by kernel_rfl
structure H18 (D : Den) (σ : Sig) (F : Nat) : Prop where
  c42 : ∀ (x0 : (Int × (List (Int × Int)))) r, s_l2Good F x0 = some r → D 42 [Enc.enc x0] = some (Enc.enc (r : Bool))
  g42 : σ 42 = some (0, false)
  c43 : ∀ (x0 : (Int × (List (Int × Int)))) (x1 : (List Int)) r, s_l6Program F x0 x1 = some r → D 43 [Enc.enc x0, Enc.enc x1] = some (Enc.enc (r : Bool))
  g43 : σ 43 = some (0, false)
  c44 : ∀ (x0 : (Int × (List (Int × Int)))) (x1 : (List Int)) r, s_l6States F x0 x1 = some r → D 44 [Enc.enc x0, Enc.enc x1] = some (Enc.enc (r : (List ((List Int) × (List Int)))))
  g44 : σ 44 = some (0, true)
  c49 : ∀ (x0 : Int) (x1 : Int) r, s_l1Most F x0 x1 = some r → D 49 [Enc.enc x0, Enc.enc x1] = some (Enc.enc (r : Int))
  g49 : σ 49 = some (0, false)
abbrev R18 (r : (Int × Bool)) : (Nat → V) → Prop := RR Try.prog [.tmp 4, .tmp 5] 0 false (.tup [Enc.enc (r.1 : Int), Enc.enc (r.2 : Bool)])
section
variable {D : Den} {σ : Sig} {F : Nat} {r : (Int × Bool)}
def s_SearchersUsed_l1 (F : Nat) (r_6 : (List ((List Int) × (List Int))))  : Nat → Int → Int → Option (Int × Bool)
  | 0, _, _ => none
  | k + 1, most_9, i_10 =>
    bif decide (i_10 < (r_6.length : Int)) then
      (idx r_6 i_10).bind fun e_13 =>
      (s_l1Most F most_9 (e_13.1.length : Int)).bind fun r_14 =>
      (s_SearchersUsed_l1 F r_6 k) r_14 (w64 (i_10 + 1))
    else
      some (most_9, true)
theorem t_f18_l1 (H : H18 D σ F) (r_6 : (List ((List Int) × (List Int))))  : ∀ (k : Nat) (most_9 : Int) (i_10 : Int) (s : Nat → V), Facts [(4, (.int .i64 0)), (5, (.bool false)), (6, (.int .i64 most_9)), (7, (Enc.enc (r_6 : List ((List Int) × (List Int))))), (8, (.int .i64 i_10))] s → s_SearchersUsed_l1 F r_6 k most_9 i_10 = some r → Run D σ (R18 r) (.run A18_1 [.lp A18_1, .bk 0, .sq A18_5]) s := by
  intro k
  induction k with
  | zero => intro most_9 i_10 s _ h; exact nomatch (h : (none : Option _) = some r)
  | succ k ih =>
    intro most_9 i_10 s hs h
    rw [s_SearchersUsed_l1] at h
    obtain ⟨h4, h5, h6, h7, h8⟩ := hs
    refine .seq ?_
    refine .seq ?_
    refine run_reg ?_
    refine e_end ?_
    refine g_v1 (t := 8) (u := (.int .i64 i_10)) (.int .i64 i_10) h8 rfl rfl ?_
    refine g_v1 (t := 7) (u := (Enc.enc (r_6 : List ((List Int) × (List Int))))) (Enc.enc (r_6 : List ((List Int) × (List Int)))) h7 rfl rfl ?_
    refine g_v (.int .i64 (r_6.length : Int)) (ev_len (xs := r_6) rfl) ?_
    refine g_v2 (t1 := 21) (t2 := 23) (u1 := (.int .i64 i_10)) (u2 := (.int .i64 (r_6.length : Int))) (.bool (decide (i_10 < (r_6.length : Int)))) rfl rfl rfl rfl ?_
    refine g_end ?_
    refine e_end ?_
    refine renew [(4, (.int .i64 0)), (5, (.bool false)), (6, (.int .i64 most_9)), (7, (Enc.enc (r_6 : List ((List Int) × (List Int))))), (8, (.int .i64 i_10)), (24, (.bool (decide (i_10 < (r_6.length : Int)))))] ⟨h4, h5, h6, h7, h8, rfl⟩ ?_
    rintro s ⟨h4, h5, h6, h7, h8, h24⟩
    refine .nsq ?_
    refine run_cond (t := decide (i_10 < (r_6.length : Int))) h24 h (fun h => ?_) (fun h => ?_)
    · refine .skip ?_
      refine .nsq ?_
      refine .seq ?_
      refine .block ?_
      refine run_reg ?_
      refine e_end ?_
      refine g_v1 (t := 6) (u := (.int .i64 most_9)) (.int .i64 most_9) h6 rfl rfl ?_
      refine g_v1 (t := 7) (u := (Enc.enc (r_6 : List ((List Int) × (List Int))))) (Enc.enc (r_6 : List ((List Int) × (List Int)))) h7 rfl rfl ?_
      refine g_v1 (t := 8) (u := (.int .i64 i_10)) (.int .i64 i_10) h8 rfl rfl ?_
      obtain ⟨e_13, E_e_13, h⟩ := bind_some h
      refine g_v (.ref .sh 0 [] (.agg [(Enc.enc (e_13.1 : List Int)), (Enc.enc (e_13.2 : List Int))])) (ev_idx (t := .sh) (lo := 0) (xs := r_6) rfl rfl E_e_13 rfl rfl) ?_
      refine g_v1 (t := 30) (u := (.ref .sh 0 [] (.agg [(Enc.enc (e_13.1 : List Int)), (Enc.enc (e_13.2 : List Int))]))) (.ref .sh 0 [0] (Enc.enc (e_13.1 : List Int))) rfl rfl rfl ?_
      refine g_v1 (t := 31) (u := (.ref .sh 0 [0] (Enc.enc (e_13.1 : List Int)))) (Enc.enc (e_13.1 : List Int)) rfl rfl rfl ?_
      refine g_v (.int .i64 (e_13.1.length : Int)) (ev_len (xs := e_13.1) rfl) ?_
      obtain ⟨r_14, E_r_14, h⟩ := bind_some h
      refine g_call (m := 0) (al := false) (r := (Enc.enc (r_14 : Int))) [Enc.enc (most_9 : Int), Enc.enc ((e_13.1.length : Int) : Int)] (ta_cons (v := (.int .i64 most_9)) rfl rfl rfl (ta_cons (v := (.int .i64 (e_13.1.length : Int))) rfl rfl rfl ta_nil)) (H.c49 _ _ _ E_r_14) H.g49 rfl rfl rfl rfl ?_
      refine g_v1 (t := 34) (u := (.int .i64 r_14)) (.int .i64 r_14) rfl rfl rfl ?_
      refine g_end ?_
      refine e_end ?_
      refine renew [(4, (.int .i64 0)), (5, (.bool false)), (6, (.int .i64 r_14)), (7, (Enc.enc (r_6 : List ((List Int) × (List Int))))), (8, (.int .i64 i_10))] ⟨h4, h5, rfl, h7, h8⟩ ?_
      rintro s ⟨h4, h5, h6, h7, h8⟩
      refine .nbk ?_
      refine .nsq ?_
      refine run_reg ?_
      refine e_end ?_
      refine g_v1 (t := 8) (u := (.int .i64 i_10)) (.int .i64 i_10) h8 rfl rfl ?_
      refine g_v1 (t := 25) (u := (.int .i64 i_10)) (.int .i64 (w64 (i_10 + 1))) rfl rfl rfl ?_
      refine g_v1 (t := 26) (u := (.int .i64 (w64 (i_10 + 1)))) (.int .i64 (w64 (i_10 + 1))) rfl rfl rfl ?_
      refine g_end ?_
      refine e_end ?_
      refine renew [(4, (.int .i64 0)), (5, (.bool false)), (6, (.int .i64 r_14)), (7, (Enc.enc (r_6 : List ((List Int) × (List Int))))), (8, (.int .i64 (w64 (i_10 + 1))))] ⟨h4, h5, h6, h7, rfl⟩ ?_
      rintro s ⟨h4, h5, h6, h7, h8⟩
      refine .nlp ?_
      exact ih r_14 (w64 (i_10 + 1)) _ ⟨h4, h5, h6, h7, h8⟩ h
    · refine .exit ?_
      refine .esq ?_
      refine .elp ?_
      refine .ebk ?_
      refine .nsq ?_
      refine .seq ?_
      refine run_reg ?_
      refine e_end ?_
      refine g_v1 (t := 6) (u := (.int .i64 most_9)) (.int .i64 most_9) h6 rfl rfl ?_
      refine g_v1 (t := 35) (u := (.int .i64 most_9)) (.int .i64 most_9) rfl rfl rfl ?_
      refine g_v0 (.bool true) rfl rfl ?_
      refine g_end ?_
      refine e_end ?_
      refine renew [(4, (.int .i64 most_9)), (5, (.bool true))] ⟨rfl, rfl⟩ ?_
      rintro s ⟨h4, h5⟩
      refine .nsq ?_
      refine .ret ?_
      have hr := Option.some.inj h
      subst hr
      exact rrB (res_tmp h4) (res_tmp h5) rfl
def s_SearchersUsed_j1 (F : Nat) (program_2 : (List Int)) (g_1 : (Int × (List (Int × Int))))  (t17_5 : Bool) : Option (Int × Bool) :=
  bif t17_5 then
    some (0, false)
  else
    (s_l6States F g_1 program_2).bind fun r_6 =>
    s_SearchersUsed_l1 F r_6 F 0 0
theorem t_f18_j1 (H : H18 D σ F) (program_2 : (List Int)) (g_1 : (Int × (List (Int × Int))))  (t17_5 : Bool) (s : Nat → V) (hs : Facts [(1, (Enc.enc (program_2 : List Int))), (2, (.ref (.bx 2) 0 [] (.agg [(.int .i64 g_1.1), (Enc.enc (g_1.2 : List (Int × Int)))]))), (4, (.int .i64 0)), (5, (.bool false)), (17, (.bool t17_5))] s) (h : s_SearchersUsed_j1 F program_2 g_1  t17_5 = some r) : Run D σ (R18 r) (.nrm [.sq A18_6, .sq A18_7]) s := by
  unfold s_SearchersUsed_j1 at h
  obtain ⟨h1, h2, h4, h5, h17⟩ := hs
  refine .nsq ?_
  refine run_cond (t := t17_5) h17 h (fun h => ?_) (fun h => ?_)
  · refine .seq ?_
    refine run_reg ?_
    refine e_end ?_
    refine g_v0 (.int .i64 0) rfl rfl ?_
    refine g_v0 (.bool false) rfl rfl ?_
    refine g_end ?_
    refine e_end ?_
    refine renew [(1, (Enc.enc (program_2 : List Int))), (2, (.ref (.bx 2) 0 [] (.agg [(.int .i64 g_1.1), (Enc.enc (g_1.2 : List (Int × Int)))]))), (4, (.int .i64 0)), (5, (.bool false))] ⟨h1, h2, rfl, rfl⟩ ?_
    rintro s ⟨h1, h2, h4, h5⟩
    refine .nsq ?_
    refine .ret ?_
    have hr := Option.some.inj h
    subst hr
    exact rrB (res_tmp h4) (res_tmp h5) rfl
  · refine .skip ?_
    refine .nsq ?_
    refine .seq ?_
    refine run_reg ?_
    refine e_end ?_
    refine g_v1 (t := 2) (u := (.ref (.bx 2) 0 [] (.agg [(.int .i64 g_1.1), (Enc.enc (g_1.2 : List (Int × Int)))]))) (.agg [(.int .i64 g_1.1), (Enc.enc (g_1.2 : List (Int × Int)))]) h2 rfl rfl ?_
    refine g_v1 (t := 1) (u := (Enc.enc (program_2 : List Int))) (Enc.enc (program_2 : List Int)) h1 rfl rfl ?_
    obtain ⟨r_6, E_r_6, h⟩ := bind_some h
    refine g_call (m := 0) (al := true) (r := (Enc.enc (r_6 : (List ((List Int) × (List Int)))))) [Enc.enc (g_1 : (Int × (List (Int × Int)))), Enc.enc (program_2 : (List Int))] (ta_cons (v := (.agg [(.int .i64 g_1.1), (Enc.enc (g_1.2 : List (Int × Int)))])) rfl rfl (Enc.erase_enc (g_1 : (Int × (List (Int × Int))))) (ta_cons (v := (Enc.enc (program_2 : List Int))) rfl rfl (Enc.erase_enc (program_2 : (List Int))) ta_nil)) (H.c44 _ _ _ E_r_6) H.g44 (hal_of (ht_cons (v := (.agg [(.int .i64 g_1.1), (Enc.enc (g_1.2 : List (Int × Int)))])) rfl rfl rfl (ht_cons (v := (Enc.enc (program_2 : List Int))) rfl rfl rfl ht_nil))) rfl rfl rfl ?_
    refine g_v0 (.int .i64 0) rfl rfl ?_
    refine g_v1 (t := 20) (u := (Enc.enc (r_6 : List ((List Int) × (List Int))))) (Enc.enc (r_6 : List ((List Int) × (List Int)))) rfl rfl rfl ?_
    refine g_end ?_
    refine e_end ?_
    refine renew [(4, (.int .i64 0)), (5, (.bool false)), (6, (.int .i64 0)), (7, (Enc.enc (r_6 : List ((List Int) × (List Int)))))] ⟨h4, h5, rfl, rfl⟩ ?_
    rintro s ⟨h4, h5, h6, h7⟩
    refine .nsq ?_
    refine .seq ?_
    refine .seq ?_
    refine run_reg ?_
    refine e_end ?_
    refine g_v0 (.int .i64 0) rfl rfl ?_
    refine g_end ?_
    refine e_end ?_
    refine renew [(4, (.int .i64 0)), (5, (.bool false)), (6, (.int .i64 0)), (7, (Enc.enc (r_6 : List ((List Int) × (List Int))))), (8, (.int .i64 0))] ⟨h4, h5, h6, h7, rfl⟩ ?_
    rintro s ⟨h4, h5, h6, h7, h8⟩
    refine .nsq ?_
    refine .block ?_
    refine .loop ?_
    exact t_f18_l1 H r_6 F 0 0 _ ⟨h4, h5, h6, h7, h8⟩ h
def s_SearchersUsed (F : Nat) (g_1 : (Int × (List (Int × Int)))) (program_2 : (List Int)) : Option (Int × Bool) :=
  (s_l2Good F g_1).bind fun r_15 =>
  bif (!r_15) then
    s_SearchersUsed_j1 F program_2 g_1 true
  else
    (s_l6Program F g_1 program_2).bind fun r_16 =>
    s_SearchersUsed_j1 F program_2 g_1 (!r_16)
theorem t18 (H : H18 D σ F) (g_1 : (Int × (List (Int × Int)))) (program_2 : (List Int)) (s : Nat → V) (hs : Facts [(0, (.agg [(.int .i64 g_1.1), (Enc.enc (g_1.2 : List (Int × Int)))])), (1, (Enc.enc (program_2 : List Int)))] s) (h : s_SearchersUsed F g_1 program_2 = some r) : Run D σ (R18 r) (.run A18 []) s := by
  unfold s_SearchersUsed at h
  obtain ⟨h0, h1⟩ := hs
  refine .seq ?_
  refine run_reg ?_
  refine e_clr ?_
  refine e_end ?_
  refine g_box (.agg [(.int .i64 g_1.1), (Enc.enc (g_1.2 : List (Int × Int)))]) (rd_of (keep_clear (s := s) (pk := [2]) h0 rfl (map_agg (maps_cons rfl (maps_cons (Enc.map_enc _ (g_1.2 : List (Int × Int))) maps_nil)))) rfl) (gone_clear (s := s) (pk := [2]) (t := 2) rfl) rfl ?_
  refine g_v0 (.int .i64 0) rfl rfl ?_
  refine g_v0 (.bool false) rfl rfl ?_
  refine g_end ?_
  refine e_end ?_
  refine renew [(1, (Enc.enc (program_2 : List Int))), (2, (.ref (.bx 2) 0 [] (.agg [(.int .i64 g_1.1), (Enc.enc (g_1.2 : List (Int × Int)))]))), (4, (.int .i64 0)), (5, (.bool false))] ⟨(keep_clear (s := s) (pk := [2]) h1 rfl (Enc.map_enc _ (program_2 : List Int))), rfl, rfl, rfl⟩ ?_
  rintro s ⟨h1, h2, h4, h5⟩
  refine .nsq ?_
  refine .seq ?_
  refine .seq ?_
  refine run_reg ?_
  refine e_end ?_
  refine g_v1 (t := 2) (u := (.ref (.bx 2) 0 [] (.agg [(.int .i64 g_1.1), (Enc.enc (g_1.2 : List (Int × Int)))]))) (.agg [(.int .i64 g_1.1), (Enc.enc (g_1.2 : List (Int × Int)))]) h2 rfl rfl ?_
  obtain ⟨r_15, E_r_15, h⟩ := bind_some h
  refine g_call (m := 0) (al := false) (r := (Enc.enc (r_15 : Bool))) [Enc.enc (g_1 : (Int × (List (Int × Int))))] (ta_cons (v := (.agg [(.int .i64 g_1.1), (Enc.enc (g_1.2 : List (Int × Int)))])) rfl rfl (Enc.erase_enc (g_1 : (Int × (List (Int × Int))))) ta_nil) (H.c42 _ _ E_r_15) H.g42 rfl rfl rfl rfl ?_
  refine g_v1 (t := 10) (u := (.bool r_15)) (.bool (!r_15)) rfl rfl rfl ?_
  refine g_v1 (t := 11) (u := (.bool (!r_15))) (.bool (!r_15)) rfl rfl rfl ?_
  refine split_on (c := (!r_15)) h (fun hg4 h => ?_) (fun hg4 h => ?_)
  · refine g_no (Eq.trans (b := .bool (!r_15)) rfl (congrArg V.bool hg4)) ?_
    refine g_no (Eq.trans (b := .bool (!r_15)) rfl (congrArg V.bool hg4)) ?_
    refine g_no (Eq.trans (b := .bool (!r_15)) rfl (congrArg V.bool hg4)) ?_
    refine g_no (Eq.trans (b := .bool (!r_15)) rfl (congrArg V.bool hg4)) ?_
    refine g_v2 (t1 := 12) (t2 := 16) (u1 := (.bool true)) (u2 := (.tup [])) (.bool true) (Eq.trans (b := .bool (!r_15)) rfl (congrArg V.bool hg4)) rfl rfl rfl ?_
    refine g_end ?_
    refine e_end ?_
    refine renew [(1, (Enc.enc (program_2 : List Int))), (2, (.ref (.bx 2) 0 [] (.agg [(.int .i64 g_1.1), (Enc.enc (g_1.2 : List (Int × Int)))]))), (4, (.int .i64 0)), (5, (.bool false)), (17, (.bool true))] ⟨h1, h2, h4, h5, rfl⟩ ?_
    rintro s ⟨h1, h2, h4, h5, h17⟩
    exact t_f18_j1 H program_2 g_1 true _ ⟨h1, h2, h4, h5, h17⟩ h
  · refine g_yes (Eq.trans (b := .bool (!r_15)) rfl (congrArg V.bool hg4)) (g_v1 (t := 2) (u := (.ref (.bx 2) 0 [] (.agg [(.int .i64 g_1.1), (Enc.enc (g_1.2 : List (Int × Int)))]))) (.agg [(.int .i64 g_1.1), (Enc.enc (g_1.2 : List (Int × Int)))]) h2 rfl rfl ?_)
    refine g_yes (Eq.trans (b := .bool (!r_15)) rfl (congrArg V.bool hg4)) (g_v1 (t := 1) (u := (Enc.enc (program_2 : List Int))) (Enc.enc (program_2 : List Int)) h1 rfl rfl ?_)
    obtain ⟨r_16, E_r_16, h⟩ := bind_some h
    refine g_yes (Eq.trans (b := .bool (!r_15)) rfl (congrArg V.bool hg4)) (g_call (m := 0) (al := false) (r := (Enc.enc (r_16 : Bool))) [Enc.enc (g_1 : (Int × (List (Int × Int)))), Enc.enc (program_2 : (List Int))] (ta_cons (v := (.agg [(.int .i64 g_1.1), (Enc.enc (g_1.2 : List (Int × Int)))])) rfl rfl (Enc.erase_enc (g_1 : (Int × (List (Int × Int))))) (ta_cons (v := (Enc.enc (program_2 : List Int))) rfl rfl (Enc.erase_enc (program_2 : (List Int))) ta_nil)) (H.c43 _ _ _ E_r_16) H.g43 rfl rfl rfl rfl ?_)
    refine g_yes (Eq.trans (b := .bool (!r_15)) rfl (congrArg V.bool hg4)) (g_v1 (t := 15) (u := (.bool r_16)) (.bool (!r_16)) rfl rfl rfl ?_)
    refine g_v2 (t1 := 12) (t2 := 16) (u1 := (.bool false)) (u2 := (.bool (!r_16))) (.bool (!r_16)) (Eq.trans (b := .bool (!r_15)) rfl (congrArg V.bool hg4)) rfl rfl rfl ?_
    refine g_end ?_
    refine e_end ?_
    refine renew [(1, (Enc.enc (program_2 : List Int))), (2, (.ref (.bx 2) 0 [] (.agg [(.int .i64 g_1.1), (Enc.enc (g_1.2 : List (Int × Int)))]))), (4, (.int .i64 0)), (5, (.bool false)), (17, (.bool (!r_16)))] ⟨h1, h2, h4, h5, rfl⟩ ?_
    rintro s ⟨h1, h2, h4, h5, h17⟩
    exact t_f18_j1 H program_2 g_1 (!r_16) _ ⟨h1, h2, h4, h5, h17⟩ h
end
def e18 (F : Nat) : Ent := ⟨18, da (fun (x : ((Int × (List (Int × Int))) × (List Int) × Unit)) => s_SearchersUsed F x.1 x.2.1) (fun (r : (Int × Bool)) => (.tup [Enc.enc (r.1 : Int), Enc.enc (r.2 : Bool)])), 0, false, selF []⟩
theorem p18 {F : Nat} {x0 : (Int × (List (Int × Int)))} {x1 : (List Int)} {r : (Int × Bool)} (h : s_SearchersUsed F x0 x1 = some r) : (e18 F).den [Enc.enc x0, Enc.enc x1] = some (.tup [Enc.enc (r.1 : Int), Enc.enc (r.2 : Bool)]) := da_put (f := fun (x : ((Int × (List (Int × Int))) × (List Int) × Unit)) => s_SearchersUsed F x.1 x.2.1) (t := fun (r : (Int × Bool)) => (.tup [Enc.enc (r.1 : Int), Enc.enc (r.2 : Bool)])) (x0, x1, ()) h
theorem o18 {D : Den} {σ : Sig} {F : Nat} (hF : Fits2 Try.prog D σ) (H : H18 D σ F) : (e18 F).Ok Try.prog := by
  refine ⟨fun args r h => ?_, ⟨Try.f18, Try.func18, rfl, rfl⟩⟩
  obtain ⟨⟨x0, x1, _⟩, y, rfl, hy, rfl⟩ := da_open h
  exact contract_run hF (by kernel_rfl) Try.func18 rfl c18 (show 2 ≤ Try.f18.ntmps by decide) (t18 H x0 x1 _ ⟨rfl, rfl⟩ hy)
/- loop.example/g01109/impl.within -/
def A62_1 : AC := (AC.seq (AC.reg [] [(I.mk (some 7) none false (X.v (A.mov (O.t 0)))), (I.mk (some 8) none false (X.v (A.mov (O.t 1)))), (I.mk (some 9) none false (X.v (A.bin BinOp.geq (O.t 7) (O.t 8)))), (I.mk (some 10) none false (X.v (A.mov (O.t 9)))), (I.mk (some 11) (some (10, true)) false (X.v (A.mov (O.t 0)))), (I.mk (some 12) (some (10, true)) false (X.v (A.mov (O.t 2)))), (I.mk (some 13) (some (10, true)) false (X.v (A.bin BinOp.leq (O.t 11) (O.t 12)))), (I.mk (some 14) none false (X.v (A.pick (O.t 10) (O.t 13) (O.k (V.bool false))))), (I.mk (some 6) none false (X.v (A.mov (O.t 14))))] []) AC.ret)
def A62 : AC := (AC.seq (AC.reg [] [(I.mk (some 6) none false (X.v (A.mov (O.k (V.bool false)))))] []) A62_1)
def an62 : List An := []
theorem c62 : cC Try.prog Try.f62.ntmps an62 (Try.f62.body.getD .skip) = some A62 := by kernel_rfl
structure H62 (D : Den) (σ : Sig) (F : Nat) : Prop where
  mk ::
abbrev R62 (r : Bool) : (Nat → V) → Prop := RR Try.prog [.tmp 6] 0 false (Enc.enc (r : Bool))
section
variable {D : Den} {σ : Sig} {F : Nat} {r : Bool}
def i_within (F : Nat) (n_1 : Int) (low_2 : Int) (high_3 : Int) : Option Bool :=
  bif decide (n_1 ≥ low_2) then
    some (decide (n_1 ≤ high_3))
  else
    some false
theorem t62 (H : H62 D σ F) (n_1 : Int) (low_2 : Int) (high_3 : Int) (s : Nat → V) (hs : Facts [(0, (.int .i64 n_1)), (1, (.int .i64 low_2)), (2, (.int .i64 high_3))] s) (h : i_within F n_1 low_2 high_3 = some r) : Run D σ (R62 r) (.run A62 []) s := by
  unfold i_within at h
  obtain ⟨h0, h1, h2⟩ := hs
  refine .seq ?_
  refine run_reg ?_
  refine e_end ?_
  refine g_v0 (.bool false) rfl rfl ?_
  refine g_end ?_
  refine e_end ?_
  refine renew [(0, (.int .i64 n_1)), (1, (.int .i64 low_2)), (2, (.int .i64 high_3)), (6, (.bool false))] ⟨h0, h1, h2, rfl⟩ ?_
  rintro s ⟨h0, h1, h2, h6⟩
  refine .nsq ?_
  refine .seq ?_
  refine run_reg ?_
  refine e_end ?_
  refine g_v1 (t := 0) (u := (.int .i64 n_1)) (.int .i64 n_1) h0 rfl rfl ?_
  refine g_v1 (t := 1) (u := (.int .i64 low_2)) (.int .i64 low_2) h1 rfl rfl ?_
  refine g_v2 (t1 := 7) (t2 := 8) (u1 := (.int .i64 n_1)) (u2 := (.int .i64 low_2)) (.bool (decide (n_1 ≥ low_2))) rfl rfl rfl rfl ?_
  refine g_v1 (t := 9) (u := (.bool (decide (n_1 ≥ low_2)))) (.bool (decide (n_1 ≥ low_2))) rfl rfl rfl ?_
  refine split_on (c := decide (n_1 ≥ low_2)) h (fun hg4 h => ?_) (fun hg4 h => ?_)
  · refine g_yes (Eq.trans (b := .bool (decide (n_1 ≥ low_2))) rfl (congrArg V.bool hg4)) (g_v1 (t := 0) (u := (.int .i64 n_1)) (.int .i64 n_1) h0 rfl rfl ?_)
    refine g_yes (Eq.trans (b := .bool (decide (n_1 ≥ low_2))) rfl (congrArg V.bool hg4)) (g_v1 (t := 2) (u := (.int .i64 high_3)) (.int .i64 high_3) h2 rfl rfl ?_)
    refine g_yes (Eq.trans (b := .bool (decide (n_1 ≥ low_2))) rfl (congrArg V.bool hg4)) (g_v2 (t1 := 11) (t2 := 12) (u1 := (.int .i64 n_1)) (u2 := (.int .i64 high_3)) (.bool (decide (n_1 ≤ high_3))) rfl rfl rfl rfl ?_)
    refine g_v2 (t1 := 10) (t2 := 13) (u1 := (.bool true)) (u2 := (.bool (decide (n_1 ≤ high_3)))) (.bool (decide (n_1 ≤ high_3))) (Eq.trans (b := .bool (decide (n_1 ≥ low_2))) rfl (congrArg V.bool hg4)) rfl rfl rfl ?_
    refine g_v1 (t := 14) (u := (.bool (decide (n_1 ≤ high_3)))) (.bool (decide (n_1 ≤ high_3))) rfl rfl rfl ?_
    refine g_end ?_
    refine e_end ?_
    refine renew [(6, (.bool (decide (n_1 ≤ high_3))))] rfl ?_
    rintro s h6
    refine .nsq ?_
    refine .ret ?_
    have hr := Option.some.inj h
    subst hr
    exact rrA (res_tmp h6) rfl
  · refine g_no (Eq.trans (b := .bool (decide (n_1 ≥ low_2))) rfl (congrArg V.bool hg4)) ?_
    refine g_no (Eq.trans (b := .bool (decide (n_1 ≥ low_2))) rfl (congrArg V.bool hg4)) ?_
    refine g_no (Eq.trans (b := .bool (decide (n_1 ≥ low_2))) rfl (congrArg V.bool hg4)) ?_
    refine g_v2 (t1 := 10) (t2 := 13) (u1 := (.bool false)) (u2 := (.tup [])) (.bool false) (Eq.trans (b := .bool (decide (n_1 ≥ low_2))) rfl (congrArg V.bool hg4)) rfl rfl rfl ?_
    refine g_v1 (t := 14) (u := (.bool false)) (.bool false) rfl rfl rfl ?_
    refine g_end ?_
    refine e_end ?_
    refine renew [(6, (.bool false))] rfl ?_
    rintro s h6
    refine .nsq ?_
    refine .ret ?_
    have hr := Option.some.inj h
    subst hr
    exact rrA (res_tmp h6) rfl
end
def e62 (F : Nat) : Ent := ⟨62, da (fun (x : (Int × Int × Int × Unit)) => i_within F x.1 x.2.1 x.2.2.1) (fun (r : Bool) => (Enc.enc (r : Bool))), 0, false, selF []⟩
theorem p62 {F : Nat} {x0 : Int} {x1 : Int} {x2 : Int} {r : Bool} (h : i_within F x0 x1 x2 = some r) : (e62 F).den [Enc.enc x0, Enc.enc x1, Enc.enc x2] = some (Enc.enc (r : Bool)) := da_put (f := fun (x : (Int × Int × Int × Unit)) => i_within F x.1 x.2.1 x.2.2.1) (t := fun (r : Bool) => (Enc.enc (r : Bool))) (x0, x1, x2, ()) h
theorem o62 {D : Den} {σ : Sig} {F : Nat} (hF : Fits2 Try.prog D σ) (H : H62 D σ F) : (e62 F).Ok Try.prog := by
  refine ⟨fun args r h => ?_, ⟨Try.f62, Try.func62, rfl, rfl⟩⟩
  obtain ⟨⟨x0, x1, x2, _⟩, y, rfl, hy, rfl⟩ := da_open h
  exact contract_run hF (by kernel_rfl) Try.func62 rfl c62 (show 3 ≤ Try.f62.ntmps by decide) (t62 H x0 x1 x2 _ ⟨rfl, rfl, rfl⟩ hy)
/- cmp.isNaN[int] -/
def A131_1 : AC := (AC.seq (AC.reg [] [(I.mk (some 3) none false (X.v (A.mov (O.t 0)))), (I.mk (some 4) none false (X.v (A.mov (O.t 0)))), (I.mk (some 5) none false (X.v (A.bin BinOp.neq (O.t 3) (O.t 4)))), (I.mk (some 2) none false (X.v (A.mov (O.t 5))))] []) AC.ret)
def A131 : AC := (AC.seq (AC.reg [] [(I.mk (some 2) none false (X.v (A.mov (O.k (V.bool false)))))] []) A131_1)
def an131 : List An := []
theorem c131 : cC Try.prog Try.f131.ntmps an131 (Try.f131.body.getD .skip) = some A131 := by kernel_rfl
structure H131 (D : Den) (σ : Sig) (F : Nat) : Prop where
  mk ::
abbrev R131 (r : Bool) : (Nat → V) → Prop := RR Try.prog [.tmp 2] 0 false (Enc.enc (r : Bool))
section
variable {D : Den} {σ : Sig} {F : Nat} {r : Bool}
def cmp_isNaN_int (F : Nat) (x_1 : Int) : Option Bool :=
  some (x_1 != x_1)
theorem t131 (H : H131 D σ F) (x_1 : Int) (s : Nat → V) (hs : Facts [(0, (.int .i64 x_1))] s) (h : cmp_isNaN_int F x_1 = some r) : Run D σ (R131 r) (.run A131 []) s := by
  unfold cmp_isNaN_int at h
  have h0 := hs
  refine .seq ?_
  refine run_reg ?_
  refine e_end ?_
  refine g_v0 (.bool false) rfl rfl ?_
  refine g_end ?_
  refine e_end ?_
  refine renew [(0, (.int .i64 x_1)), (2, (.bool false))] ⟨h0, rfl⟩ ?_
  rintro s ⟨h0, h2⟩
  refine .nsq ?_
  refine .seq ?_
  refine run_reg ?_
  refine e_end ?_
  refine g_v1 (t := 0) (u := (.int .i64 x_1)) (.int .i64 x_1) h0 rfl rfl ?_
  refine g_v1 (t := 0) (u := (.int .i64 x_1)) (.int .i64 x_1) h0 rfl rfl ?_
  refine g_v2 (t1 := 3) (t2 := 4) (u1 := (.int .i64 x_1)) (u2 := (.int .i64 x_1)) (.bool (x_1 != x_1)) rfl rfl rfl rfl ?_
  refine g_v1 (t := 5) (u := (.bool (x_1 != x_1))) (.bool (x_1 != x_1)) rfl rfl rfl ?_
  refine g_end ?_
  refine e_end ?_
  refine renew [(2, (.bool (x_1 != x_1)))] rfl ?_
  rintro s h2
  refine .nsq ?_
  refine .ret ?_
  have hr := Option.some.inj h
  subst hr
  exact rrA (res_tmp h2) rfl
end
def e131 (F : Nat) : Ent := ⟨131, da (fun (x : (Int × Unit)) => cmp_isNaN_int F x.1) (fun (r : Bool) => (Enc.enc (r : Bool))), 0, false, selF []⟩
theorem p131 {F : Nat} {x0 : Int} {r : Bool} (h : cmp_isNaN_int F x0 = some r) : (e131 F).den [Enc.enc x0] = some (Enc.enc (r : Bool)) := da_put (f := fun (x : (Int × Unit)) => cmp_isNaN_int F x.1) (t := fun (r : Bool) => (Enc.enc (r : Bool))) (x0, ()) h
theorem o131 {D : Den} {σ : Sig} {F : Nat} (hF : Fits2 Try.prog D σ) (H : H131 D σ F) : (e131 F).Ok Try.prog := by
  refine ⟨fun args r h => ?_, ⟨Try.f131, Try.func131, rfl, rfl⟩⟩
  obtain ⟨⟨x0, _⟩, y, rfl, hy, rfl⟩ := da_open h
  exact contract_run hF (by kernel_rfl) Try.func131 rfl c131 (show 1 ≤ Try.f131.ntmps by decide) (t131 H x0 _ rfl hy)
/- cmp.Compare[int] -/
def A114_5 : AC := (AC.cond (O.t 12) (AC.seq (AC.reg [] [(I.mk (some 4) none false (X.v (A.mov (O.k (V.int IntKind.i64 (Int.ofNat 0))))))] []) AC.ret) AC.skip)
def A114_6 : AC := (AC.seq (AC.reg [] [(I.mk (some 4) none false (X.v (A.mov (O.k (V.int IntKind.i64 (Int.negSucc 0))))))] []) AC.ret)
def A114_4 : AC := (AC.cond (O.t 11) (AC.seq (AC.seq (AC.reg [] [(I.mk (some 12) none false (X.v (A.mov (O.t 6))))] []) A114_5) A114_6) AC.skip)
def A114_8 : AC := (AC.cond (O.t 13) (AC.seq (AC.reg [] [(I.mk (some 4) none false (X.v (A.mov (O.k (V.int IntKind.i64 (Int.ofNat 1))))))] []) AC.ret) AC.skip)
def A114_10 : AC := (AC.cond (O.t 16) (AC.seq (AC.reg [] [(I.mk (some 4) none false (X.v (A.mov (O.k (V.int IntKind.i64 (Int.negSucc 0))))))] []) AC.ret) AC.skip)
def A114_12 : AC := (AC.cond (O.t 19) (AC.seq (AC.reg [] [(I.mk (some 4) none false (X.v (A.mov (O.k (V.int IntKind.i64 (Int.ofNat 1))))))] []) AC.ret) AC.skip)
def A114_13 : AC := (AC.seq (AC.reg [] [(I.mk (some 4) none false (X.v (A.mov (O.k (V.int IntKind.i64 (Int.ofNat 0))))))] []) AC.ret)
def A114_11 : AC := (AC.seq (AC.seq (AC.reg [] [(I.mk (some 17) none false (X.v (A.mov (O.t 0)))), (I.mk (some 18) none false (X.v (A.mov (O.t 1)))), (I.mk (some 19) none false (X.v (A.bin BinOp.gtr (O.t 17) (O.t 18))))] []) A114_12) A114_13)
def A114_9 : AC := (AC.seq (AC.seq (AC.reg [] [(I.mk (some 14) none false (X.v (A.mov (O.t 0)))), (I.mk (some 15) none false (X.v (A.mov (O.t 1)))), (I.mk (some 16) none false (X.v (A.bin BinOp.lss (O.t 14) (O.t 15))))] []) A114_10) A114_11)
def A114_7 : AC := (AC.seq (AC.seq (AC.reg [] [(I.mk (some 13) none false (X.v (A.mov (O.t 6))))] []) A114_8) A114_9)
def A114_3 : AC := (AC.seq (AC.seq (AC.reg [] [(I.mk (some 11) none false (X.v (A.mov (O.t 5))))] []) A114_4) A114_7)
def A114_2 : AC := (AC.seq (AC.reg [] [(I.mk (some 9) none false (X.v (A.mov (O.t 1)))), (I.mk (some 10) none false (X.call (O.k (V.fn 131 [] [])) [(O.t 9)])), (I.mk (some 6) none false (X.v (A.mov (O.t 10))))] []) A114_3)
def A114_1 : AC := (AC.seq (AC.reg [] [(I.mk (some 7) none false (X.v (A.mov (O.t 0)))), (I.mk (some 8) none false (X.call (O.k (V.fn 131 [] [])) [(O.t 7)])), (I.mk (some 5) none false (X.v (A.mov (O.t 8))))] []) A114_2)
def A114 : AC := (AC.seq (AC.reg [] [(I.mk (some 4) none false (X.v (A.mov (O.k (V.int IntKind.i64 (Int.ofNat 0))))))] []) A114_1)
def an114 : List An := []
theorem c114 : cC Try.prog Try.f114.ntmps an114 (Try.f114.body.getD .skip) = some A114 := by kernel_rfl
structure H114 (D : Den) (σ : Sig) (F : Nat) : Prop where
  c131 : ∀ (x0 : Int) r, cmp_isNaN_int F x0 = some r → D 131 [Enc.enc x0] = some (Enc.enc (r : Bool))
  g131 : σ 131 = some (0, false)
abbrev R114 (r : Int) : (Nat → V) → Prop := RR Try.prog [.tmp 4] 0 false (Enc.enc (r : Int))
section
variable {D : Den} {σ : Sig} {F : Nat} {r : Int}
def cmp_Compare_int (F : Nat) (x_1 : Int) (y_2 : Int) : Option Int :=
  (cmp_isNaN_int F x_1).bind fun r_3 =>
  (cmp_isNaN_int F y_2).bind fun r_4 =>
  bif r_3 then
    bif r_4 then
      some 0
    else
      some (-1)
  else
    bif r_4 then
      some 1
    else
      bif decide (x_1 < y_2) then
        some (-1)
      else
        bif decide (x_1 > y_2) then
          some 1
        else
          some 0
theorem t114 (H : H114 D σ F) (x_1 : Int) (y_2 : Int) (s : Nat → V) (hs : Facts [(0, (.int .i64 x_1)), (1, (.int .i64 y_2))] s) (h : cmp_Compare_int F x_1 y_2 = some r) : Run D σ (R114 r) (.run A114 []) s := by
  unfold cmp_Compare_int at h
  obtain ⟨h0, h1⟩ := hs
  refine .seq ?_
  refine run_reg ?_
  refine e_end ?_
  refine g_v0 (.int .i64 0) rfl rfl ?_
  refine g_end ?_
  refine e_end ?_
  refine renew [(0, (.int .i64 x_1)), (1, (.int .i64 y_2)), (4, (.int .i64 0))] ⟨h0, h1, rfl⟩ ?_
  rintro s ⟨h0, h1, h4⟩
  refine .nsq ?_
  refine .seq ?_
  refine run_reg ?_
  refine e_end ?_
  refine g_v1 (t := 0) (u := (.int .i64 x_1)) (.int .i64 x_1) h0 rfl rfl ?_
  obtain ⟨r_3, E_r_3, h⟩ := bind_some h
  refine g_call (m := 0) (al := false) (r := (Enc.enc (r_3 : Bool))) [Enc.enc (x_1 : Int)] (ta_cons (v := (.int .i64 x_1)) rfl rfl rfl ta_nil) (H.c131 _ _ E_r_3) H.g131 rfl rfl rfl rfl ?_
  refine g_v1 (t := 8) (u := (.bool r_3)) (.bool r_3) rfl rfl rfl ?_
  refine g_end ?_
  refine e_end ?_
  refine renew [(0, (.int .i64 x_1)), (1, (.int .i64 y_2)), (4, (.int .i64 0)), (5, (.bool r_3))] ⟨h0, h1, h4, rfl⟩ ?_
  rintro s ⟨h0, h1, h4, h5⟩
  refine .nsq ?_
  refine .seq ?_
  refine run_reg ?_
  refine e_end ?_
  refine g_v1 (t := 1) (u := (.int .i64 y_2)) (.int .i64 y_2) h1 rfl rfl ?_
  obtain ⟨r_4, E_r_4, h⟩ := bind_some h
  refine g_call (m := 0) (al := false) (r := (Enc.enc (r_4 : Bool))) [Enc.enc (y_2 : Int)] (ta_cons (v := (.int .i64 y_2)) rfl rfl rfl ta_nil) (H.c131 _ _ E_r_4) H.g131 rfl rfl rfl rfl ?_
  refine g_v1 (t := 10) (u := (.bool r_4)) (.bool r_4) rfl rfl rfl ?_
  refine g_end ?_
  refine e_end ?_
  refine renew [(0, (.int .i64 x_1)), (1, (.int .i64 y_2)), (4, (.int .i64 0)), (5, (.bool r_3)), (6, (.bool r_4))] ⟨h0, h1, h4, h5, rfl⟩ ?_
  rintro s ⟨h0, h1, h4, h5, h6⟩
  refine .nsq ?_
  refine .seq ?_
  refine .seq ?_
  refine run_reg ?_
  refine e_end ?_
  refine g_v1 (t := 5) (u := (.bool r_3)) (.bool r_3) h5 rfl rfl ?_
  refine g_end ?_
  refine e_end ?_
  refine renew [(0, (.int .i64 x_1)), (1, (.int .i64 y_2)), (4, (.int .i64 0)), (6, (.bool r_4)), (11, (.bool r_3))] ⟨h0, h1, h4, h6, rfl⟩ ?_
  rintro s ⟨h0, h1, h4, h6, h11⟩
  refine .nsq ?_
  refine run_cond (t := r_3) h11 h (fun h => ?_) (fun h => ?_)
  · refine .seq ?_
    refine .seq ?_
    refine run_reg ?_
    refine e_end ?_
    refine g_v1 (t := 6) (u := (.bool r_4)) (.bool r_4) h6 rfl rfl ?_
    refine g_end ?_
    refine e_end ?_
    refine renew [(0, (.int .i64 x_1)), (1, (.int .i64 y_2)), (4, (.int .i64 0)), (6, (.bool r_4)), (12, (.bool r_4))] ⟨h0, h1, h4, h6, rfl⟩ ?_
    rintro s ⟨h0, h1, h4, h6, h12⟩
    refine .nsq ?_
    refine run_cond (t := r_4) h12 h (fun h => ?_) (fun h => ?_)
    · refine .seq ?_
      refine run_reg ?_
      refine e_end ?_
      refine g_v0 (.int .i64 0) rfl rfl ?_
      refine g_end ?_
      refine e_end ?_
      refine renew [(0, (.int .i64 x_1)), (1, (.int .i64 y_2)), (4, (.int .i64 0)), (6, (.bool r_4))] ⟨h0, h1, rfl, h6⟩ ?_
      rintro s ⟨h0, h1, h4, h6⟩
      refine .nsq ?_
      refine .ret ?_
      have hr := Option.some.inj h
      subst hr
      exact rrA (res_tmp h4) rfl
    · refine .skip ?_
      refine .nsq ?_
      refine .seq ?_
      refine run_reg ?_
      refine e_end ?_
      refine g_v0 (.int .i64 (-1)) rfl rfl ?_
      refine g_end ?_
      refine e_end ?_
      refine renew [(0, (.int .i64 x_1)), (1, (.int .i64 y_2)), (4, (.int .i64 (-1))), (6, (.bool r_4))] ⟨h0, h1, rfl, h6⟩ ?_
      rintro s ⟨h0, h1, h4, h6⟩
      refine .nsq ?_
      refine .ret ?_
      have hr := Option.some.inj h
      subst hr
      exact rrA (res_tmp h4) rfl
  · refine .skip ?_
    refine .nsq ?_
    refine .seq ?_
    refine .seq ?_
    refine run_reg ?_
    refine e_end ?_
    refine g_v1 (t := 6) (u := (.bool r_4)) (.bool r_4) h6 rfl rfl ?_
    refine g_end ?_
    refine e_end ?_
    refine renew [(0, (.int .i64 x_1)), (1, (.int .i64 y_2)), (4, (.int .i64 0)), (13, (.bool r_4))] ⟨h0, h1, h4, rfl⟩ ?_
    rintro s ⟨h0, h1, h4, h13⟩
    refine .nsq ?_
    refine run_cond (t := r_4) h13 h (fun h => ?_) (fun h => ?_)
    · refine .seq ?_
      refine run_reg ?_
      refine e_end ?_
      refine g_v0 (.int .i64 1) rfl rfl ?_
      refine g_end ?_
      refine e_end ?_
      refine renew [(0, (.int .i64 x_1)), (1, (.int .i64 y_2)), (4, (.int .i64 1))] ⟨h0, h1, rfl⟩ ?_
      rintro s ⟨h0, h1, h4⟩
      refine .nsq ?_
      refine .ret ?_
      have hr := Option.some.inj h
      subst hr
      exact rrA (res_tmp h4) rfl
    · refine .skip ?_
      refine .nsq ?_
      refine .seq ?_
      refine .seq ?_
      refine run_reg ?_
      refine e_end ?_
      refine g_v1 (t := 0) (u := (.int .i64 x_1)) (.int .i64 x_1) h0 rfl rfl ?_
      refine g_v1 (t := 1) (u := (.int .i64 y_2)) (.int .i64 y_2) h1 rfl rfl ?_
      refine g_v2 (t1 := 14) (t2 := 15) (u1 := (.int .i64 x_1)) (u2 := (.int .i64 y_2)) (.bool (decide (x_1 < y_2))) rfl rfl rfl rfl ?_
      refine g_end ?_
      refine e_end ?_
      refine renew [(0, (.int .i64 x_1)), (1, (.int .i64 y_2)), (4, (.int .i64 0)), (16, (.bool (decide (x_1 < y_2))))] ⟨h0, h1, h4, rfl⟩ ?_
      rintro s ⟨h0, h1, h4, h16⟩
      refine .nsq ?_
      refine run_cond (t := decide (x_1 < y_2)) h16 h (fun h => ?_) (fun h => ?_)
      · refine .seq ?_
        refine run_reg ?_
        refine e_end ?_
        refine g_v0 (.int .i64 (-1)) rfl rfl ?_
        refine g_end ?_
        refine e_end ?_
        refine renew [(0, (.int .i64 x_1)), (1, (.int .i64 y_2)), (4, (.int .i64 (-1)))] ⟨h0, h1, rfl⟩ ?_
        rintro s ⟨h0, h1, h4⟩
        refine .nsq ?_
        refine .ret ?_
        have hr := Option.some.inj h
        subst hr
        exact rrA (res_tmp h4) rfl
      · refine .skip ?_
        refine .nsq ?_
        refine .seq ?_
        refine .seq ?_
        refine run_reg ?_
        refine e_end ?_
        refine g_v1 (t := 0) (u := (.int .i64 x_1)) (.int .i64 x_1) h0 rfl rfl ?_
        refine g_v1 (t := 1) (u := (.int .i64 y_2)) (.int .i64 y_2) h1 rfl rfl ?_
        refine g_v2 (t1 := 17) (t2 := 18) (u1 := (.int .i64 x_1)) (u2 := (.int .i64 y_2)) (.bool (decide (x_1 > y_2))) rfl rfl rfl rfl ?_
        refine g_end ?_
        refine e_end ?_
        refine renew [(4, (.int .i64 0)), (19, (.bool (decide (x_1 > y_2))))] ⟨h4, rfl⟩ ?_
        rintro s ⟨h4, h19⟩
        refine .nsq ?_
        refine run_cond (t := decide (x_1 > y_2)) h19 h (fun h => ?_) (fun h => ?_)
        · refine .seq ?_
          refine run_reg ?_
          refine e_end ?_
          refine g_v0 (.int .i64 1) rfl rfl ?_
          refine g_end ?_
          refine e_end ?_
          refine renew [(4, (.int .i64 1))] rfl ?_
          rintro s h4
          refine .nsq ?_
          refine .ret ?_
          have hr := Option.some.inj h
          subst hr
          exact rrA (res_tmp h4) rfl
        · refine .skip ?_
          refine .nsq ?_
          refine .seq ?_
          refine run_reg ?_
          refine e_end ?_
          refine g_v0 (.int .i64 0) rfl rfl ?_
          refine g_end ?_
          refine e_end ?_
          refine renew [(4, (.int .i64 0))] rfl ?_
          rintro s h4
          refine .nsq ?_
          refine .ret ?_
          have hr := Option.some.inj h
          subst hr
          exact rrA (res_tmp h4) rfl
end
def e114 (F : Nat) : Ent := ⟨114, da (fun (x : (Int × Int × Unit)) => cmp_Compare_int F x.1 x.2.1) (fun (r : Int) => (Enc.enc (r : Int))), 0, false, selF []⟩
theorem p114 {F : Nat} {x0 : Int} {x1 : Int} {r : Int} (h : cmp_Compare_int F x0 x1 = some r) : (e114 F).den [Enc.enc x0, Enc.enc x1] = some (Enc.enc (r : Int)) := da_put (f := fun (x : (Int × Int × Unit)) => cmp_Compare_int F x.1 x.2.1) (t := fun (r : Int) => (Enc.enc (r : Int))) (x0, x1, ()) h
theorem o114 {D : Den} {σ : Sig} {F : Nat} (hF : Fits2 Try.prog D σ) (H : H114 D σ F) : (e114 F).Ok Try.prog := by
  refine ⟨fun args r h => ?_, ⟨Try.f114, Try.func114, rfl, rfl⟩⟩
  obtain ⟨⟨x0, x1, _⟩, y, rfl, hy, rfl⟩ := da_open h
  exact contract_run hF (by kernel_rfl) Try.func114 rfl c114 (show 2 ≤ Try.f114.ntmps by decide) (t114 H x0 x1 _ ⟨rfl, rfl⟩ hy)
/- slices.Compare[[]int,int] -/
def A81_5 : AC := (AC.cond (O.t 19) (AC.seq (AC.reg [] [(I.mk (some 4) none false (X.v (A.mov (O.k (V.int IntKind.i64 (Int.ofNat 1))))))] []) AC.ret) AC.skip)
def A81_9 : AC := (AC.cond (O.t 28) (AC.seq (AC.reg [] [(I.mk (some 29) none false (X.v (A.mov (O.t 8)))), (I.mk (some 4) none false (X.v (A.mov (O.t 29))))] []) AC.ret) AC.skip)
def A81_8 : AC := (AC.seq (AC.reg [] [(I.mk (some 27) none false (X.v (A.mov (O.t 8)))), (I.mk (some 28) none false (X.v (A.bin BinOp.neq (O.t 27) (O.k (V.int IntKind.i64 (Int.ofNat 0))))))] []) A81_9)
def A81_7 : AC := (AC.seq (AC.reg [] [(I.mk (some 24) none false (X.v (A.mov (O.t 6)))), (I.mk (some 25) none false (X.v (A.mov (O.t 7)))), (I.mk (some 26) none false (X.call (O.k (V.fn 114 [] [])) [(O.t 24), (O.t 25)])), (I.mk (some 8) none false (X.v (A.mov (O.t 26))))] []) A81_8)
def A81_6 : AC := (AC.seq (AC.reg [] [(I.mk (some 20) none false (X.v (A.mov (O.t 1)))), (I.mk (some 21) none false (X.v (A.mov (O.t 5)))), (I.mk (some 22) none false (X.v (A.idx (O.t 20) (O.t 21) 1))), (I.mk (some 23) none false (X.v (A.load Sh.s (O.t 22)))), (I.mk (some 7) none false (X.v (A.mov (O.t 23))))] []) A81_7)
def A81_4 : AC := (AC.seq (AC.seq (AC.reg [] [(I.mk (some 16) none false (X.v (A.mov (O.t 5)))), (I.mk (some 17) none false (X.v (A.mov (O.t 1)))), (I.mk (some 18) none false (X.v (A.len (O.t 17)))), (I.mk (some 19) none false (X.v (A.bin BinOp.geq (O.t 16) (O.t 18))))] []) A81_5) A81_6)
def A81_10 : AC := (AC.reg [] [(I.mk (some 30) none false (X.v (A.bin BinOp.add (O.t 11) (O.k (V.int IntKind.i64 (Int.ofNat 1)))))), (I.mk (some 11) none false (X.v (A.mov (O.t 30))))] [])
def A81_3 : AC := (AC.seq (AC.block 1 (AC.seq (AC.reg [] [(I.mk (some 13) none false (X.v (A.mov (O.t 11)))), (I.mk (some 14) none false (X.v (A.idx (O.t 9) (O.t 11) 1))), (I.mk (some 15) none false (X.v (A.load Sh.s (O.t 14)))), (I.mk (some 5) none false (X.v (A.mov (O.t 13)))), (I.mk (some 6) none false (X.v (A.mov (O.t 15))))] []) A81_4)) A81_10)
def A81_2 : AC := (AC.seq (AC.cond (O.t 12) AC.skip (AC.exit 0)) A81_3)
def A81_1 : AC := (AC.seq (AC.reg [] [(I.mk (some 12) none false (X.v (A.bin BinOp.lss (O.t 11) (O.t 10))))] []) A81_2)
def A81_12 : AC := (AC.cond (O.t 35) (AC.seq (AC.reg [] [(I.mk (some 4) none false (X.v (A.mov (O.k (V.int IntKind.i64 (Int.negSucc 0))))))] []) AC.ret) AC.skip)
def A81_13 : AC := (AC.seq (AC.reg [] [(I.mk (some 4) none false (X.v (A.mov (O.k (V.int IntKind.i64 (Int.ofNat 0))))))] []) AC.ret)
def A81_11 : AC := (AC.seq (AC.seq (AC.reg [] [(I.mk (some 31) none false (X.v (A.mov (O.t 0)))), (I.mk (some 32) none false (X.v (A.len (O.t 31)))), (I.mk (some 33) none false (X.v (A.mov (O.t 1)))), (I.mk (some 34) none false (X.v (A.len (O.t 33)))), (I.mk (some 35) none false (X.v (A.bin BinOp.lss (O.t 32) (O.t 34))))] []) A81_12) A81_13)
def A81_15 : AC := (AC.block 0 (AC.loop A81_1))
def A81_14 : AC := (AC.seq (AC.seq (AC.reg [] [(I.mk (some 9) none false (X.v (A.mov (O.t 0)))), (I.mk (some 10) none false (X.v (A.len (O.t 9)))), (I.mk (some 11) none false (X.v (A.mov (O.k (V.int IntKind.i64 (Int.ofNat 0))))))] []) A81_15) A81_11)
def A81 : AC := (AC.seq (AC.reg [] [(I.mk (some 4) none false (X.v (A.mov (O.k (V.int IntKind.i64 (Int.ofNat 0))))))] []) A81_14)
def an81 : List An := []
theorem c81 : cC Try.prog Try.f81.ntmps an81 (Try.f81.body.getD .skip) = some A81 := by kernel_rfl
structure H81 (D : Den) (σ : Sig) (F : Nat) : Prop where
  c114 : ∀ (x0 : Int) (x1 : Int) r, cmp_Compare_int F x0 x1 = some r → D 114 [Enc.enc x0, Enc.enc x1] = some (Enc.enc (r : Int))
  g114 : σ 114 = some (0, false)
abbrev R81 (r : Int) : (Nat → V) → Prop := RR Try.prog [.tmp 4] 0 false (Enc.enc (r : Int))
section
variable {D : Den} {σ : Sig} {F : Nat} {r : Int}
def slices_Compare_l1 (F : Nat) (s1_1 : (List Int)) (s2_2 : (List Int))  : Nat → Int → Option Int
  | 0, _ => none
  | k + 1, t11_6 =>
    bif decide (t11_6 < (s1_1.length : Int)) then
      (idx s1_1 t11_6).bind fun e_10 =>
      bif decide (t11_6 ≥ (s2_2.length : Int)) then
        some 1
      else
        (idx s2_2 t11_6).bind fun e_11 =>
        (cmp_Compare_int F e_10 e_11).bind fun r_12 =>
        bif (r_12 != 0) then
          some r_12
        else
          (slices_Compare_l1 F s1_1 s2_2 k) (w64 (t11_6 + 1))
    else
      bif decide ((s1_1.length : Int) < (s2_2.length : Int)) then
        some (-1)
      else
        some 0
theorem t_f81_l1 (H : H81 D σ F) (s1_1 : (List Int)) (s2_2 : (List Int))  : ∀ (k : Nat) (t11_6 : Int) (s : Nat → V), Facts [(0, (Enc.enc (s1_1 : List Int))), (1, (Enc.enc (s2_2 : List Int))), (4, (.int .i64 0)), (9, (Enc.enc (s1_1 : List Int))), (10, (.int .i64 (s1_1.length : Int))), (11, (.int .i64 t11_6))] s → slices_Compare_l1 F s1_1 s2_2 k t11_6 = some r → Run D σ (R81 r) (.run A81_1 [.lp A81_1, .bk 0, .sq A81_11]) s := by
  intro k
  induction k with
  | zero => intro t11_6 s _ h; exact nomatch (h : (none : Option _) = some r)
  | succ k ih =>
    intro t11_6 s hs h
    rw [slices_Compare_l1] at h
    obtain ⟨h0, h1, h4, h9, h10, h11⟩ := hs
    refine .seq ?_
    refine run_reg ?_
    refine e_end ?_
    refine g_v2 (t1 := 11) (t2 := 10) (u1 := (.int .i64 t11_6)) (u2 := (.int .i64 (s1_1.length : Int))) (.bool (decide (t11_6 < (s1_1.length : Int)))) h11 h10 rfl rfl ?_
    refine g_end ?_
    refine e_end ?_
    refine renew [(0, (Enc.enc (s1_1 : List Int))), (1, (Enc.enc (s2_2 : List Int))), (4, (.int .i64 0)), (9, (Enc.enc (s1_1 : List Int))), (10, (.int .i64 (s1_1.length : Int))), (11, (.int .i64 t11_6)), (12, (.bool (decide (t11_6 < (s1_1.length : Int)))))] ⟨h0, h1, h4, h9, h10, h11, rfl⟩ ?_
    rintro s ⟨h0, h1, h4, h9, h10, h11, h12⟩
    refine .nsq ?_
    refine .seq ?_
    refine run_cond (t := decide (t11_6 < (s1_1.length : Int))) h12 h (fun h => ?_) (fun h => ?_)
    · refine .skip ?_
      refine .nsq ?_
      refine .seq ?_
      refine .block ?_
      refine .seq ?_
      refine run_reg ?_
      refine e_end ?_
      refine g_v1 (t := 11) (u := (.int .i64 t11_6)) (.int .i64 t11_6) h11 rfl rfl ?_
      obtain ⟨e_10, E_e_10, h⟩ := bind_some h
      refine g_v (.ref .sh 0 [] (.int .i64 e_10)) (ev_idx (t := .sh) (lo := 0) (xs := s1_1) h9 h11 E_e_10 rfl rfl) ?_
      refine g_v1 (t := 14) (u := (.ref .sh 0 [] (.int .i64 e_10))) (.int .i64 e_10) rfl rfl rfl ?_
      refine g_v1 (t := 13) (u := (.int .i64 t11_6)) (.int .i64 t11_6) rfl rfl rfl ?_
      refine g_v1 (t := 15) (u := (.int .i64 e_10)) (.int .i64 e_10) rfl rfl rfl ?_
      refine g_end ?_
      refine e_end ?_
      refine renew [(0, (Enc.enc (s1_1 : List Int))), (1, (Enc.enc (s2_2 : List Int))), (4, (.int .i64 0)), (5, (.int .i64 t11_6)), (6, (.int .i64 e_10)), (9, (Enc.enc (s1_1 : List Int))), (10, (.int .i64 (s1_1.length : Int))), (11, (.int .i64 t11_6))] ⟨h0, h1, h4, rfl, rfl, h9, h10, h11⟩ ?_
      rintro s ⟨h0, h1, h4, h5, h6, h9, h10, h11⟩
      refine .nsq ?_
      refine .seq ?_
      refine .seq ?_
      refine run_reg ?_
      refine e_end ?_
      refine g_v1 (t := 5) (u := (.int .i64 t11_6)) (.int .i64 t11_6) h5 rfl rfl ?_
      refine g_v1 (t := 1) (u := (Enc.enc (s2_2 : List Int))) (Enc.enc (s2_2 : List Int)) h1 rfl rfl ?_
      refine g_v (.int .i64 (s2_2.length : Int)) (ev_len (xs := s2_2) rfl) ?_
      refine g_v2 (t1 := 16) (t2 := 18) (u1 := (.int .i64 t11_6)) (u2 := (.int .i64 (s2_2.length : Int))) (.bool (decide (t11_6 ≥ (s2_2.length : Int)))) rfl rfl rfl rfl ?_
      refine g_end ?_
      refine e_end ?_
      refine renew [(0, (Enc.enc (s1_1 : List Int))), (1, (Enc.enc (s2_2 : List Int))), (4, (.int .i64 0)), (5, (.int .i64 t11_6)), (6, (.int .i64 e_10)), (9, (Enc.enc (s1_1 : List Int))), (10, (.int .i64 (s1_1.length : Int))), (11, (.int .i64 t11_6)), (19, (.bool (decide (t11_6 ≥ (s2_2.length : Int)))))] ⟨h0, h1, h4, h5, h6, h9, h10, h11, rfl⟩ ?_
      rintro s ⟨h0, h1, h4, h5, h6, h9, h10, h11, h19⟩
      refine .nsq ?_
      refine run_cond (t := decide (t11_6 ≥ (s2_2.length : Int))) h19 h (fun h => ?_) (fun h => ?_)
      · refine .seq ?_
        refine run_reg ?_
        refine e_end ?_
        refine g_v0 (.int .i64 1) rfl rfl ?_
        refine g_end ?_
        refine e_end ?_
        refine renew [(0, (Enc.enc (s1_1 : List Int))), (1, (Enc.enc (s2_2 : List Int))), (4, (.int .i64 1)), (5, (.int .i64 t11_6)), (6, (.int .i64 e_10)), (9, (Enc.enc (s1_1 : List Int))), (10, (.int .i64 (s1_1.length : Int))), (11, (.int .i64 t11_6))] ⟨h0, h1, rfl, h5, h6, h9, h10, h11⟩ ?_
        rintro s ⟨h0, h1, h4, h5, h6, h9, h10, h11⟩
        refine .nsq ?_
        refine .ret ?_
        have hr := Option.some.inj h
        subst hr
        exact rrA (res_tmp h4) rfl
      · refine .skip ?_
        refine .nsq ?_
        refine .seq ?_
        refine run_reg ?_
        refine e_end ?_
        refine g_v1 (t := 1) (u := (Enc.enc (s2_2 : List Int))) (Enc.enc (s2_2 : List Int)) h1 rfl rfl ?_
        refine g_v1 (t := 5) (u := (.int .i64 t11_6)) (.int .i64 t11_6) h5 rfl rfl ?_
        obtain ⟨e_11, E_e_11, h⟩ := bind_some h
        refine g_v (.ref .sh 0 [] (.int .i64 e_11)) (ev_idx (t := .sh) (lo := 0) (xs := s2_2) rfl rfl E_e_11 rfl rfl) ?_
        refine g_v1 (t := 22) (u := (.ref .sh 0 [] (.int .i64 e_11))) (.int .i64 e_11) rfl rfl rfl ?_
        refine g_v1 (t := 23) (u := (.int .i64 e_11)) (.int .i64 e_11) rfl rfl rfl ?_
        refine g_end ?_
        refine e_end ?_
        refine renew [(0, (Enc.enc (s1_1 : List Int))), (1, (Enc.enc (s2_2 : List Int))), (4, (.int .i64 0)), (6, (.int .i64 e_10)), (7, (.int .i64 e_11)), (9, (Enc.enc (s1_1 : List Int))), (10, (.int .i64 (s1_1.length : Int))), (11, (.int .i64 t11_6))] ⟨h0, h1, h4, h6, rfl, h9, h10, h11⟩ ?_
        rintro s ⟨h0, h1, h4, h6, h7, h9, h10, h11⟩
        refine .nsq ?_
        refine .seq ?_
        refine run_reg ?_
        refine e_end ?_
        refine g_v1 (t := 6) (u := (.int .i64 e_10)) (.int .i64 e_10) h6 rfl rfl ?_
        refine g_v1 (t := 7) (u := (.int .i64 e_11)) (.int .i64 e_11) h7 rfl rfl ?_
        obtain ⟨r_12, E_r_12, h⟩ := bind_some h
        refine g_call (m := 0) (al := false) (r := (Enc.enc (r_12 : Int))) [Enc.enc (e_10 : Int), Enc.enc (e_11 : Int)] (ta_cons (v := (.int .i64 e_10)) rfl rfl rfl (ta_cons (v := (.int .i64 e_11)) rfl rfl rfl ta_nil)) (H.c114 _ _ _ E_r_12) H.g114 rfl rfl rfl rfl ?_
        refine g_v1 (t := 26) (u := (.int .i64 r_12)) (.int .i64 r_12) rfl rfl rfl ?_
        refine g_end ?_
        refine e_end ?_
        refine renew [(0, (Enc.enc (s1_1 : List Int))), (1, (Enc.enc (s2_2 : List Int))), (4, (.int .i64 0)), (8, (.int .i64 r_12)), (9, (Enc.enc (s1_1 : List Int))), (10, (.int .i64 (s1_1.length : Int))), (11, (.int .i64 t11_6))] ⟨h0, h1, h4, rfl, h9, h10, h11⟩ ?_
        rintro s ⟨h0, h1, h4, h8, h9, h10, h11⟩
        refine .nsq ?_
        refine .seq ?_
        refine run_reg ?_
        refine e_end ?_
        refine g_v1 (t := 8) (u := (.int .i64 r_12)) (.int .i64 r_12) h8 rfl rfl ?_
        refine g_v1 (t := 27) (u := (.int .i64 r_12)) (.bool (r_12 != 0)) rfl rfl rfl ?_
        refine g_end ?_
        refine e_end ?_
        refine renew [(0, (Enc.enc (s1_1 : List Int))), (1, (Enc.enc (s2_2 : List Int))), (4, (.int .i64 0)), (8, (.int .i64 r_12)), (9, (Enc.enc (s1_1 : List Int))), (10, (.int .i64 (s1_1.length : Int))), (11, (.int .i64 t11_6)), (28, (.bool (r_12 != 0)))] ⟨h0, h1, h4, h8, h9, h10, h11, rfl⟩ ?_
        rintro s ⟨h0, h1, h4, h8, h9, h10, h11, h28⟩
        refine .nsq ?_
        refine run_cond (t := (r_12 != 0)) h28 h (fun h => ?_) (fun h => ?_)
        · refine .seq ?_
          refine run_reg ?_
          refine e_end ?_
          refine g_v1 (t := 8) (u := (.int .i64 r_12)) (.int .i64 r_12) h8 rfl rfl ?_
          refine g_v1 (t := 29) (u := (.int .i64 r_12)) (.int .i64 r_12) rfl rfl rfl ?_
          refine g_end ?_
          refine e_end ?_
          refine renew [(0, (Enc.enc (s1_1 : List Int))), (1, (Enc.enc (s2_2 : List Int))), (4, (.int .i64 r_12)), (9, (Enc.enc (s1_1 : List Int))), (10, (.int .i64 (s1_1.length : Int))), (11, (.int .i64 t11_6))] ⟨h0, h1, rfl, h9, h10, h11⟩ ?_
          rintro s ⟨h0, h1, h4, h9, h10, h11⟩
          refine .nsq ?_
          refine .ret ?_
          have hr := Option.some.inj h
          subst hr
          exact rrA (res_tmp h4) rfl
        · refine .skip ?_
          refine .nbk ?_
          refine .nsq ?_
          refine run_reg ?_
          refine e_end ?_
          refine g_v1 (t := 11) (u := (.int .i64 t11_6)) (.int .i64 (w64 (t11_6 + 1))) h11 rfl rfl ?_
          refine g_v1 (t := 30) (u := (.int .i64 (w64 (t11_6 + 1)))) (.int .i64 (w64 (t11_6 + 1))) rfl rfl rfl ?_
          refine g_end ?_
          refine e_end ?_
          refine renew [(0, (Enc.enc (s1_1 : List Int))), (1, (Enc.enc (s2_2 : List Int))), (4, (.int .i64 0)), (9, (Enc.enc (s1_1 : List Int))), (10, (.int .i64 (s1_1.length : Int))), (11, (.int .i64 (w64 (t11_6 + 1))))] ⟨h0, h1, h4, h9, h10, rfl⟩ ?_
          rintro s ⟨h0, h1, h4, h9, h10, h11⟩
          refine .nlp ?_
          exact ih (w64 (t11_6 + 1)) _ ⟨h0, h1, h4, h9, h10, h11⟩ h
    · refine .exit ?_
      refine .esq ?_
      refine .elp ?_
      refine .ebk ?_
      refine .nsq ?_
      refine .seq ?_
      refine .seq ?_
      refine run_reg ?_
      refine e_end ?_
      refine g_v1 (t := 0) (u := (Enc.enc (s1_1 : List Int))) (Enc.enc (s1_1 : List Int)) h0 rfl rfl ?_
      refine g_v (.int .i64 (s1_1.length : Int)) (ev_len (xs := s1_1) rfl) ?_
      refine g_v1 (t := 1) (u := (Enc.enc (s2_2 : List Int))) (Enc.enc (s2_2 : List Int)) h1 rfl rfl ?_
      refine g_v (.int .i64 (s2_2.length : Int)) (ev_len (xs := s2_2) rfl) ?_
      refine g_v2 (t1 := 32) (t2 := 34) (u1 := (.int .i64 (s1_1.length : Int))) (u2 := (.int .i64 (s2_2.length : Int))) (.bool (decide ((s1_1.length : Int) < (s2_2.length : Int)))) rfl rfl rfl rfl ?_
      refine g_end ?_
      refine e_end ?_
      refine renew [(4, (.int .i64 0)), (35, (.bool (decide ((s1_1.length : Int) < (s2_2.length : Int)))))] ⟨h4, rfl⟩ ?_
      rintro s ⟨h4, h35⟩
      refine .nsq ?_
      refine run_cond (t := decide ((s1_1.length : Int) < (s2_2.length : Int))) h35 h (fun h => ?_) (fun h => ?_)
      · refine .seq ?_
        refine run_reg ?_
        refine e_end ?_
        refine g_v0 (.int .i64 (-1)) rfl rfl ?_
        refine g_end ?_
        refine e_end ?_
        refine renew [(4, (.int .i64 (-1)))] rfl ?_
        rintro s h4
        refine .nsq ?_
        refine .ret ?_
        have hr := Option.some.inj h
        subst hr
        exact rrA (res_tmp h4) rfl
      · refine .skip ?_
        refine .nsq ?_
        refine .seq ?_
        refine run_reg ?_
        refine e_end ?_
        refine g_v0 (.int .i64 0) rfl rfl ?_
        refine g_end ?_
        refine e_end ?_
        refine renew [(4, (.int .i64 0))] rfl ?_
        rintro s h4
        refine .nsq ?_
        refine .ret ?_
        have hr := Option.some.inj h
        subst hr
        exact rrA (res_tmp h4) rfl
def slices_Compare (F : Nat) (s1_1 : (List Int)) (s2_2 : (List Int)) : Option Int :=
  slices_Compare_l1 F s1_1 s2_2 F 0
theorem t81 (H : H81 D σ F) (s1_1 : (List Int)) (s2_2 : (List Int)) (s : Nat → V) (hs : Facts [(0, (Enc.enc (s1_1 : List Int))), (1, (Enc.enc (s2_2 : List Int)))] s) (h : slices_Compare F s1_1 s2_2 = some r) : Run D σ (R81 r) (.run A81 []) s := by
  unfold slices_Compare at h
  obtain ⟨h0, h1⟩ := hs
  refine .seq ?_
  refine run_reg ?_
  refine e_end ?_
  refine g_v0 (.int .i64 0) rfl rfl ?_
  refine g_end ?_
  refine e_end ?_
  refine renew [(0, (Enc.enc (s1_1 : List Int))), (1, (Enc.enc (s2_2 : List Int))), (4, (.int .i64 0))] ⟨h0, h1, rfl⟩ ?_
  rintro s ⟨h0, h1, h4⟩
  refine .nsq ?_
  refine .seq ?_
  refine .seq ?_
  refine run_reg ?_
  refine e_end ?_
  refine g_v1 (t := 0) (u := (Enc.enc (s1_1 : List Int))) (Enc.enc (s1_1 : List Int)) h0 rfl rfl ?_
  refine g_v (.int .i64 (s1_1.length : Int)) (ev_len (xs := s1_1) rfl) ?_
  refine g_v0 (.int .i64 0) rfl rfl ?_
  refine g_end ?_
  refine e_end ?_
  refine renew [(0, (Enc.enc (s1_1 : List Int))), (1, (Enc.enc (s2_2 : List Int))), (4, (.int .i64 0)), (9, (Enc.enc (s1_1 : List Int))), (10, (.int .i64 (s1_1.length : Int))), (11, (.int .i64 0))] ⟨h0, h1, h4, rfl, rfl, rfl⟩ ?_
  rintro s ⟨h0, h1, h4, h9, h10, h11⟩
  refine .nsq ?_
  refine .block ?_
  refine .loop ?_
  exact t_f81_l1 H s1_1 s2_2 F 0 _ ⟨h0, h1, h4, h9, h10, h11⟩ h
end
def e81 (F : Nat) : Ent := ⟨81, da (fun (x : ((List Int) × (List Int) × Unit)) => slices_Compare F x.1 x.2.1) (fun (r : Int) => (Enc.enc (r : Int))), 0, false, selF []⟩
theorem p81 {F : Nat} {x0 : (List Int)} {x1 : (List Int)} {r : Int} (h : slices_Compare F x0 x1 = some r) : (e81 F).den [Enc.enc x0, Enc.enc x1] = some (Enc.enc (r : Int)) := da_put (f := fun (x : ((List Int) × (List Int) × Unit)) => slices_Compare F x.1 x.2.1) (t := fun (r : Int) => (Enc.enc (r : Int))) (x0, x1, ()) h
theorem o81 {D : Den} {σ : Sig} {F : Nat} (hF : Fits2 Try.prog D σ) (H : H81 D σ F) : (e81 F).Ok Try.prog := by
  refine ⟨fun args r h => ?_, ⟨Try.f81, Try.func81, rfl, rfl⟩⟩
  obtain ⟨⟨x0, x1, _⟩, y, rfl, hy, rfl⟩ := da_open h
  exact contract_run hF (by kernel_rfl) Try.func81 rfl c81 (show 2 ≤ Try.f81.ntmps by decide) (t81 H x0 x1 _ ⟨rfl, rfl⟩ hy)
end Go.Zq
