/- Functions of the program as typed functions, and that the machine runs as they say (part 2). No further condition. -/
import Derived.Test.YthblbfcloccopaaK2
import Derived.Test.YthblbfcloccopaaProg
import Derived.Test.YthblbfcloccopaaChecked
import Derived.KernelRfl
import Derived.Test.YthblbfcloccopaaG1
set_option linter.unusedVariables false
set_option linter.unusedSimpArgs false
/- Functions of the program, as typed functions, and that the machine runs as they say. -/
namespace Go.Zq
open Go.Proofs
/- loop.example/g01109/spec.l6Widths -/
def A105_2 : AC := (AC.cond (O.t 12) AC.skip (AC.exit 0))
def A105_7 : AC := (AC.cond (O.t 18) AC.skip (AC.exit 2))
def A105_9 : AC := (AC.cond (O.t 40) (AC.reg [] [(I.mk (some 41) none false (X.v (A.mov (O.t 3)))), (I.mk (some 42) none false (X.v (A.mov (O.t 4)))), (I.mk (some 43) none false (X.v (A.mov (O.t 6)))), (I.mk (some 44) none false (X.v (A.bin BinOp.shl (O.k (V.int IntKind.i64 (Int.ofNat 1))) (O.t 43)))), (I.mk (some 45) none false (X.v (A.bin BinOp.sub (O.t 42) (O.t 44)))), (I.mk (some 46) none false (X.v (A.idx (O.t 41) (O.t 45) 1))), (I.mk (some 47) none false (X.v (A.load Sh.s (O.t 46)))), (I.mk (some 5) none false (X.v (A.mov (O.t 47))))] []) AC.skip)
def A105_10 : AC := (AC.reg [] [(I.mk (some 19) none false (X.v (A.mov (O.t 6)))), (I.mk (some 20) none false (X.v (A.bin BinOp.add (O.t 19) (O.k (V.int IntKind.i64 (Int.ofNat 1)))))), (I.mk (some 6) none false (X.v (A.mov (O.t 20))))] [])
def A105_8 : AC := (AC.seq (AC.block 3 (AC.seq (AC.reg [] [(I.mk (some 21) none false (X.v (A.mov (O.t 4)))), (I.mk (some 22) none false (X.v (A.mov (O.t 6)))), (I.mk (some 23) none false (X.v (A.bin BinOp.shr (O.t 21) (O.t 22)))), (I.mk (some 24) none false (X.v (A.bin BinOp.and (O.t 23) (O.k (V.int IntKind.i64 (Int.ofNat 1)))))), (I.mk (some 25) none false (X.v (A.bin BinOp.eql (O.t 24) (O.k (V.int IntKind.i64 (Int.ofNat 1)))))), (I.mk (some 26) none false (X.v (A.mov (O.t 25)))), (I.mk (some 27) (some (26, true)) false (X.v (A.mov (O.t 5)))), (I.mk (some 28) (some (26, true)) false (X.v (A.bin BinOp.lss (O.t 27) (O.k (V.int IntKind.i64 (Int.ofNat 0)))))), (I.mk (some 29) (some (26, true)) false (X.v (A.mov (O.t 28)))), (I.mk (some 30) (some (29, false)) false (X.v (A.mov (O.t 3)))), (I.mk (some 31) (some (29, false)) false (X.v (A.mov (O.t 4)))), (I.mk (some 32) (some (29, false)) false (X.v (A.mov (O.t 6)))), (I.mk (some 33) (some (29, false)) false (X.v (A.bin BinOp.shl (O.k (V.int IntKind.i64 (Int.ofNat 1))) (O.t 32)))), (I.mk (some 34) (some (29, false)) false (X.v (A.bin BinOp.sub (O.t 31) (O.t 33)))), (I.mk (some 35) (some (29, false)) false (X.v (A.idx (O.t 30) (O.t 34) 1))), (I.mk (some 36) (some (29, false)) false (X.v (A.load Sh.s (O.t 35)))), (I.mk (some 37) (some (29, false)) false (X.v (A.mov (O.t 5)))), (I.mk (some 38) (some (29, false)) false (X.v (A.bin BinOp.lss (O.t 36) (O.t 37)))), (I.mk (some 39) (some (26, true)) false (X.v (A.pick (O.t 29) (O.k (V.bool true)) (O.t 38)))), (I.mk (some 40) none false (X.v (A.pick (O.t 26) (O.t 39) (O.k (V.bool false)))))] []) A105_9)) A105_10)
def A105_6 : AC := (AC.seq (AC.seq (AC.reg [] [(I.mk (some 15) none false (X.v (A.mov (O.t 6)))), (I.mk (some 16) none false (X.v (A.fld (O.t 1) 0 0))), (I.mk (some 17) none false (X.v (A.load Sh.s (O.t 16)))), (I.mk (some 18) none false (X.v (A.bin BinOp.lss (O.t 15) (O.t 17))))] []) A105_7) A105_8)
def A105_5 : AC := (AC.block 2 (AC.loop A105_6))
def A105_11 : AC := (AC.reg [.clr [58, 59]] [(I.mk (some 48) none false (X.v (A.mov (O.t 3)))), (I.mk (some 49) none false (X.v (A.mov (O.t 5)))), (I.mk (some 50) none false (X.v (A.load (Sh.ag [Sh.s, Sh.p]) (O.t 1)))), (I.mk (some 51) none false (X.v (A.fld (O.t 1) 0 0))), (I.mk (some 52) none false (X.v (A.load Sh.s (O.t 51)))), (I.mk (some 53) none false (X.v (A.mov (O.t 4)))), (I.mk (some 54) none false (X.call (O.k (V.fn 78 [] [])) [(O.t 52), (O.t 53)])), (I.mk (some 55) none false (X.call (O.k (V.fn 79 [] [])) [(O.t 50), (O.t 54)])), (I.mk (some 56) none false (X.v (A.len (O.t 55)))), (I.mk (some 57) none false (X.call (O.k (V.fn 47 [] [])) [(O.t 49), (O.t 56)])), (I.mk (some 58) none false (X.lit (V.int IntKind.i64 (Int.ofNat 0)) 1 [(0, 0, (O.t 57))])), (I.mk (some 59) none false (X.app Sh.s (O.t 48) (O.t 58))), (I.mk (some 3) none false (X.v (A.mov (O.t 59))))] [.home 59 3])
def A105_4 : AC := (AC.seq (AC.seq (AC.reg [] [(I.mk (some 6) none false (X.v (A.mov (O.k (V.int IntKind.i64 (Int.ofNat 0))))))] []) A105_5) A105_11)
def A105_12 : AC := (AC.reg [] [(I.mk (some 13) none false (X.v (A.mov (O.t 4)))), (I.mk (some 14) none false (X.v (A.bin BinOp.add (O.t 13) (O.k (V.int IntKind.i64 (Int.ofNat 1)))))), (I.mk (some 4) none false (X.v (A.mov (O.t 14))))] [])
def A105_3 : AC := (AC.seq (AC.block 1 (AC.seq (AC.reg [] [(I.mk (some 5) none false (X.v (A.mov (O.k (V.int IntKind.i64 (Int.negSucc 0))))))] []) A105_4)) A105_12)
def A105_1 : AC := (AC.seq (AC.seq (AC.reg [] [(I.mk (some 8) none false (X.v (A.mov (O.t 4)))), (I.mk (some 9) none false (X.v (A.fld (O.t 1) 0 0))), (I.mk (some 10) none false (X.v (A.load Sh.s (O.t 9)))), (I.mk (some 11) none false (X.v (A.bin BinOp.shl (O.k (V.int IntKind.i64 (Int.ofNat 1))) (O.t 10)))), (I.mk (some 12) none false (X.v (A.bin BinOp.lss (O.t 8) (O.t 11))))] []) A105_2) A105_3)
def A105_13 : AC := (AC.seq (AC.reg [] [(I.mk (some 60) none false (X.v (A.mov (O.t 3)))), (I.mk (some 2) none false (X.v (A.mov (O.t 60))))] [.home 3 2]) AC.ret)
def A105_16 : AC := (AC.block 0 (AC.loop A105_1))
def A105_15 : AC := (AC.seq (AC.seq (AC.reg [] [(I.mk (some 4) none false (X.v (A.mov (O.k (V.int IntKind.i64 (Int.ofNat 1))))))] []) A105_16) A105_13)
def A105_14 : AC := (AC.seq (AC.reg [.clr [7]] [(I.mk (some 7) none false (X.lit (V.int IntKind.i64 (Int.ofNat 0)) 1 [(0, 0, (O.k (V.int IntKind.i64 (Int.ofNat 0))))])), (I.mk (some 3) none false (X.v (A.mov (O.t 7))))] [.home 7 3]) A105_15)
def A105 : AC := (AC.seq (AC.reg [.clr [1]] [(I.mk (some 1) none false (X.box (O.t 0))), (I.mk (some 2) none false (X.v (A.mov (O.k (V.sl Tok.nl Sh.s 0 [])))))] []) A105_14)
def an105 : List An := [{ id := 0, pre := [.clr [1]], ep := [], lin := [], sp := [] }, { id := 1, pre := [.clr [7]], ep := [.home 7 3], lin := [], sp := [] }, { id := 11, pre := [.clr [58, 59]], ep := [.home 59 3], lin := [], sp := [] }, { id := 12, pre := [], ep := [.home 3 2], lin := [], sp := [] }]
theorem c105 : cC Try.prog Try.f105.ntmps an105 (Try.f105.body.getD .skip) = some A105 := by kernel_rfl
structure H105 (D : Den) (σ : Sig) (F : Nat) : Prop where
  c78 : ∀ (x0 : Int) (x1 : Int) r, s_l2Bits F x0 x1 = some r → D 78 [Enc.enc x0, Enc.enc x1] = some (Enc.enc (r : (List Int)))
  g78 : σ 78 = some (0, false)
  c79 : ∀ (x0 : (Int × (List (Int × Int)))) (x1 : (List Int)) r, s_l6Front F x0 x1 = some r → D 79 [Enc.enc x0, Enc.enc x1] = some (Enc.enc (r : (List Int)))
  g79 : σ 79 = some (0, true)
  c47 : ∀ (x0 : Int) (x1 : Int) r, s_l1Most F x0 x1 = some r → D 47 [Enc.enc x0, Enc.enc x1] = some (Enc.enc (r : Int))
  g47 : σ 47 = some (0, false)
abbrev R105 (r : (List Int)) : (Nat → V) → Prop := RR Try.prog [.tmp 2] 0 false (Enc.enc (r : (List Int)))
section
variable {D : Den} {σ : Sig} {F : Nat} {r : (List Int)}
def s_l6Widths_j1 (F : Nat) (g_1 : (Int × (List (Int × Int)))) (out_45 : (List Int)) (code_46 : Int) (x_104 : Int) (c1 : (List Int) → Int → Option (List Int)) (c4 : Int → Int → Option (List Int)) (best_123 : Int) : Option (List Int) :=
  c4 best_123 (w64 (x_104 + 1))
theorem t_f105_j1 (H : H105 D σ F) (g_1 : (Int × (List (Int × Int)))) (out_45 : (List Int)) (code_46 : Int) (x_104 : Int) (c1 : (List Int) → Int → Option (List Int)) (Hc1 : ∀ (out_45 : (List Int)) (code_46 : Int) (s : Nat → V), Facts [(1, (.ref (.bx 1) 0 [] (.agg [(.int .i64 g_1.1), (Enc.enc (g_1.2 : List (Int × Int)))]))), (2, (.sl .nl (Enc.shp Int) 0 [])), (3, (encO (.at 3 []) (.of (out_45 : List Int)))), (4, (.int .i64 code_46))] s → c1 out_45 code_46 = some r → Run D σ (R105 r) (.run A105_1 [.lp A105_1, .bk 0, .sq A105_13]) s) (c4 : Int → Int → Option (List Int)) (Hc4 : ∀ (best_103 : Int) (x_104 : Int) (s : Nat → V), Facts [(1, (.ref (.bx 1) 0 [] (.agg [(.int .i64 g_1.1), (Enc.enc (g_1.2 : List (Int × Int)))]))), (2, (.sl .nl (Enc.shp Int) 0 [])), (3, (encO (.at 3 []) (.of (out_45 : List Int)))), (4, (.int .i64 code_46)), (5, (.int .i64 best_103)), (6, (.int .i64 x_104))] s → c4 best_103 x_104 = some r → Run D σ (R105 r) (.run A105_6 [.lp A105_6, .bk 2, .sq A105_11, .bk 1, .sq A105_12, .lp A105_1, .bk 0, .sq A105_13]) s) (best_123 : Int) (s : Nat → V) (hs : Facts [(1, (.ref (.bx 1) 0 [] (.agg [(.int .i64 g_1.1), (Enc.enc (g_1.2 : List (Int × Int)))]))), (2, (.sl .nl (Enc.shp Int) 0 [])), (3, (encO (.at 3 []) (.of (out_45 : List Int)))), (4, (.int .i64 code_46)), (5, (.int .i64 best_123)), (6, (.int .i64 x_104))] s) (h : s_l6Widths_j1 F g_1 out_45 code_46 x_104 c1 c4 best_123 = some r) : Run D σ (R105 r) (.nrm [.bk 3, .sq A105_10, .lp A105_6, .bk 2, .sq A105_11, .bk 1, .sq A105_12, .lp A105_1, .bk 0, .sq A105_13]) s := by
  unfold s_l6Widths_j1 at h
  obtain ⟨h1, h2, h3, h4, h5, h6⟩ := hs
  refine .nbk ?_
  refine .nsq ?_
  refine run_reg ?_
  refine e_end ?_
  refine g_v1 (t := 6) (u := (.int .i64 x_104)) (.int .i64 x_104) h6 rfl rfl ?_
  refine g_v1 (t := 19) (u := (.int .i64 x_104)) (.int .i64 (w64 (x_104 + 1))) rfl rfl rfl ?_
  refine g_v1 (t := 20) (u := (.int .i64 (w64 (x_104 + 1)))) (.int .i64 (w64 (x_104 + 1))) rfl rfl rfl ?_
  refine g_end ?_
  refine e_end ?_
  refine renew [(1, (.ref (.bx 1) 0 [] (.agg [(.int .i64 g_1.1), (Enc.enc (g_1.2 : List (Int × Int)))]))), (2, (.sl .nl (Enc.shp Int) 0 [])), (3, (encO (.at 3 []) (.of (out_45 : List Int)))), (4, (.int .i64 code_46)), (5, (.int .i64 best_123)), (6, (.int .i64 (w64 (x_104 + 1))))] ⟨h1, h2, h3, h4, h5, rfl⟩ ?_
  rintro s ⟨h1, h2, h3, h4, h5, h6⟩
  refine .nlp ?_
  exact Hc4 best_123 (w64 (x_104 + 1)) _ ⟨h1, h2, h3, h4, h5, h6⟩ h
def s_l6Widths_j2 (F : Nat) (g_1 : (Int × (List (Int × Int)))) (out_45 : (List Int)) (code_46 : Int) (best_103 : Int) (x_104 : Int) (c1 : (List Int) → Int → Option (List Int)) (c4 : Int → Int → Option (List Int)) (t40_120 : Bool) : Option (List Int) :=
  bif t40_120 then
    (shlI .i64 1 x_104).bind fun q_124 =>
    (idx out_45 (w64 (code_46 - q_124))).bind fun e_125 =>
    s_l6Widths_j1 F g_1 out_45 code_46 x_104 c1 c4 e_125
  else
    s_l6Widths_j1 F g_1 out_45 code_46 x_104 c1 c4 best_103
theorem t_f105_j2 (H : H105 D σ F) (g_1 : (Int × (List (Int × Int)))) (out_45 : (List Int)) (code_46 : Int) (best_103 : Int) (x_104 : Int) (c1 : (List Int) → Int → Option (List Int)) (Hc1 : ∀ (out_45 : (List Int)) (code_46 : Int) (s : Nat → V), Facts [(1, (.ref (.bx 1) 0 [] (.agg [(.int .i64 g_1.1), (Enc.enc (g_1.2 : List (Int × Int)))]))), (2, (.sl .nl (Enc.shp Int) 0 [])), (3, (encO (.at 3 []) (.of (out_45 : List Int)))), (4, (.int .i64 code_46))] s → c1 out_45 code_46 = some r → Run D σ (R105 r) (.run A105_1 [.lp A105_1, .bk 0, .sq A105_13]) s) (c4 : Int → Int → Option (List Int)) (Hc4 : ∀ (best_103 : Int) (x_104 : Int) (s : Nat → V), Facts [(1, (.ref (.bx 1) 0 [] (.agg [(.int .i64 g_1.1), (Enc.enc (g_1.2 : List (Int × Int)))]))), (2, (.sl .nl (Enc.shp Int) 0 [])), (3, (encO (.at 3 []) (.of (out_45 : List Int)))), (4, (.int .i64 code_46)), (5, (.int .i64 best_103)), (6, (.int .i64 x_104))] s → c4 best_103 x_104 = some r → Run D σ (R105 r) (.run A105_6 [.lp A105_6, .bk 2, .sq A105_11, .bk 1, .sq A105_12, .lp A105_1, .bk 0, .sq A105_13]) s) (t40_120 : Bool) (s : Nat → V) (hs : Facts [(1, (.ref (.bx 1) 0 [] (.agg [(.int .i64 g_1.1), (Enc.enc (g_1.2 : List (Int × Int)))]))), (2, (.sl .nl (Enc.shp Int) 0 [])), (3, (encO (.at 3 []) (.of (out_45 : List Int)))), (4, (.int .i64 code_46)), (5, (.int .i64 best_103)), (6, (.int .i64 x_104)), (40, (.bool t40_120))] s) (h : s_l6Widths_j2 F g_1 out_45 code_46 best_103 x_104 c1 c4 t40_120 = some r) : Run D σ (R105 r) (.nrm [.sq A105_9, .bk 3, .sq A105_10, .lp A105_6, .bk 2, .sq A105_11, .bk 1, .sq A105_12, .lp A105_1, .bk 0, .sq A105_13]) s := by
  unfold s_l6Widths_j2 at h
  obtain ⟨h1, h2, h3, h4, h5, h6, h40⟩ := hs
  refine .nsq ?_
  refine run_cond (t := t40_120) h40 h (fun h => ?_) (fun h => ?_)
  · refine run_reg ?_
    refine e_end ?_
    refine g_v1 (t := 3) (u := (encO (.at 3 []) (.of (out_45 : List Int)))) (encO (.at 3 []) (.of (out_45 : List Int))) h3 rfl rfl ?_
    refine g_v1 (t := 4) (u := (.int .i64 code_46)) (.int .i64 code_46) h4 rfl rfl ?_
    refine g_v1 (t := 6) (u := (.int .i64 x_104)) (.int .i64 x_104) h6 rfl rfl ?_
    obtain ⟨q_124, E_q_124, h⟩ := bind_some h
    refine g_v (.int .i64 q_124) (ev_shl rfl rfl E_q_124) ?_
    refine g_v2 (t1 := 42) (t2 := 44) (u1 := (.int .i64 code_46)) (u2 := (.int .i64 q_124)) (.int .i64 (w64 (code_46 - q_124))) rfl rfl rfl rfl ?_
    obtain ⟨e_125, E_e_125, h⟩ := bind_some h
    refine g_v (.ref (.at 3 []) ((w64 (code_46 - q_124)).toNat) [] (.int .i64 e_125)) (ev_idxO (o := (.of out_45)) rfl rfl E_e_125 rfl) ?_
    refine g_v1 (t := 46) (u := (.ref (.at 3 []) ((w64 (code_46 - q_124)).toNat) [] (.int .i64 e_125))) (.int .i64 e_125) rfl rfl rfl ?_
    refine g_v1 (t := 47) (u := (.int .i64 e_125)) (.int .i64 e_125) rfl rfl rfl ?_
    refine g_end ?_
    refine e_end ?_
    refine renew [(1, (.ref (.bx 1) 0 [] (.agg [(.int .i64 g_1.1), (Enc.enc (g_1.2 : List (Int × Int)))]))), (2, (.sl .nl (Enc.shp Int) 0 [])), (3, (encO (.at 3 []) (.of (out_45 : List Int)))), (4, (.int .i64 code_46)), (5, (.int .i64 e_125)), (6, (.int .i64 x_104))] ⟨h1, h2, h3, h4, rfl, h6⟩ ?_
    rintro s ⟨h1, h2, h3, h4, h5, h6⟩
    exact t_f105_j1 H g_1 out_45 code_46 x_104 c1 Hc1 c4 Hc4 e_125 _ ⟨h1, h2, h3, h4, h5, h6⟩ h
  · refine .skip ?_
    exact t_f105_j1 H g_1 out_45 code_46 x_104 c1 Hc1 c4 Hc4 best_103 _ ⟨h1, h2, h3, h4, h5, h6⟩ h
def s_l6Widths_l1 (F : Nat) (g_1 : (Int × (List (Int × Int)))) (out_45 : (List Int)) (code_46 : Int) (c1 : (List Int) → Int → Option (List Int)) : Nat → Int → Int → Option (List Int)
  | 0, _, _ => none
  | k + 1, best_103, x_104 =>
    bif decide (x_104 < g_1.1) then
      (shrI .i64 code_46 x_104).bind fun q_126 =>
      bif ((iand .i64 q_126 1) == 1) then
        bif decide (best_103 < 0) then
          s_l6Widths_j2 F g_1 out_45 code_46 best_103 x_104 c1 (s_l6Widths_l1 F g_1 out_45 code_46 c1 k) true
        else
          (shlI .i64 1 x_104).bind fun q_127 =>
          (idx out_45 (w64 (code_46 - q_127))).bind fun e_128 =>
          s_l6Widths_j2 F g_1 out_45 code_46 best_103 x_104 c1 (s_l6Widths_l1 F g_1 out_45 code_46 c1 k) (decide (e_128 < best_103))
      else
        s_l6Widths_j2 F g_1 out_45 code_46 best_103 x_104 c1 (s_l6Widths_l1 F g_1 out_45 code_46 c1 k) false
    else
      (s_l2Bits F g_1.1 code_46).bind fun r_129 =>
      (s_l6Front F g_1 r_129).bind fun r_130 =>
      (s_l1Most F best_103 (r_130.length : Int)).bind fun r_131 =>
      (appL out_45 [r_131]).bind fun ap_132 =>
      c1 ap_132 (w64 (code_46 + 1))
theorem t_f105_l1 (H : H105 D σ F) (g_1 : (Int × (List (Int × Int)))) (out_45 : (List Int)) (code_46 : Int) (c1 : (List Int) → Int → Option (List Int)) (Hc1 : ∀ (out_45 : (List Int)) (code_46 : Int) (s : Nat → V), Facts [(1, (.ref (.bx 1) 0 [] (.agg [(.int .i64 g_1.1), (Enc.enc (g_1.2 : List (Int × Int)))]))), (2, (.sl .nl (Enc.shp Int) 0 [])), (3, (encO (.at 3 []) (.of (out_45 : List Int)))), (4, (.int .i64 code_46))] s → c1 out_45 code_46 = some r → Run D σ (R105 r) (.run A105_1 [.lp A105_1, .bk 0, .sq A105_13]) s) : ∀ (k : Nat) (best_103 : Int) (x_104 : Int) (s : Nat → V), Facts [(1, (.ref (.bx 1) 0 [] (.agg [(.int .i64 g_1.1), (Enc.enc (g_1.2 : List (Int × Int)))]))), (2, (.sl .nl (Enc.shp Int) 0 [])), (3, (encO (.at 3 []) (.of (out_45 : List Int)))), (4, (.int .i64 code_46)), (5, (.int .i64 best_103)), (6, (.int .i64 x_104))] s → s_l6Widths_l1 F g_1 out_45 code_46 c1 k best_103 x_104 = some r → Run D σ (R105 r) (.run A105_6 [.lp A105_6, .bk 2, .sq A105_11, .bk 1, .sq A105_12, .lp A105_1, .bk 0, .sq A105_13]) s := by
  intro k
  induction k with
  | zero => intro best_103 x_104 s _ h; exact nomatch (h : (none : Option _) = some r)
  | succ k ih =>
    intro best_103 x_104 s hs h
    rw [s_l6Widths_l1] at h
    obtain ⟨h1, h2, h3, h4, h5, h6⟩ := hs
    refine .seq ?_
    refine .seq ?_
    refine run_reg ?_
    refine e_end ?_
    refine g_v1 (t := 6) (u := (.int .i64 x_104)) (.int .i64 x_104) h6 rfl rfl ?_
    refine g_v1 (t := 1) (u := (.ref (.bx 1) 0 [] (.agg [(.int .i64 g_1.1), (Enc.enc (g_1.2 : List (Int × Int)))]))) (.ref (.bx 1) 0 [0] (.int .i64 g_1.1)) h1 rfl rfl ?_
    refine g_v1 (t := 16) (u := (.ref (.bx 1) 0 [0] (.int .i64 g_1.1))) (.int .i64 g_1.1) rfl rfl rfl ?_
    refine g_v2 (t1 := 15) (t2 := 17) (u1 := (.int .i64 x_104)) (u2 := (.int .i64 g_1.1)) (.bool (decide (x_104 < g_1.1))) rfl rfl rfl rfl ?_
    refine g_end ?_
    refine e_end ?_
    refine renew [(1, (.ref (.bx 1) 0 [] (.agg [(.int .i64 g_1.1), (Enc.enc (g_1.2 : List (Int × Int)))]))), (2, (.sl .nl (Enc.shp Int) 0 [])), (3, (encO (.at 3 []) (.of (out_45 : List Int)))), (4, (.int .i64 code_46)), (5, (.int .i64 best_103)), (6, (.int .i64 x_104)), (18, (.bool (decide (x_104 < g_1.1))))] ⟨h1, h2, h3, h4, h5, h6, rfl⟩ ?_
    rintro s ⟨h1, h2, h3, h4, h5, h6, h18⟩
    refine .nsq ?_
    refine run_cond (t := decide (x_104 < g_1.1)) h18 h (fun h => ?_) (fun h => ?_)
    · refine .skip ?_
      refine .nsq ?_
      refine .seq ?_
      refine .block ?_
      refine .seq ?_
      refine run_reg ?_
      refine e_end ?_
      refine g_v1 (t := 4) (u := (.int .i64 code_46)) (.int .i64 code_46) h4 rfl rfl ?_
      refine g_v1 (t := 6) (u := (.int .i64 x_104)) (.int .i64 x_104) h6 rfl rfl ?_
      obtain ⟨q_126, E_q_126, h⟩ := bind_some h
      refine g_v (.int .i64 q_126) (ev_shr rfl rfl E_q_126) ?_
      refine g_v1 (t := 23) (u := (.int .i64 q_126)) (.int .i64 (iand .i64 q_126 1)) rfl rfl rfl ?_
      refine g_v1 (t := 24) (u := (.int .i64 (iand .i64 q_126 1))) (.bool ((iand .i64 q_126 1) == 1)) rfl rfl rfl ?_
      refine g_v1 (t := 25) (u := (.bool ((iand .i64 q_126 1) == 1))) (.bool ((iand .i64 q_126 1) == 1)) rfl rfl rfl ?_
      refine split_on (c := ((iand .i64 q_126 1) == 1)) h (fun hg6 h => ?_) (fun hg6 h => ?_)
      · refine g_yes (Eq.trans (b := .bool ((iand .i64 q_126 1) == 1)) rfl (congrArg V.bool hg6)) (g_v1 (t := 5) (u := (.int .i64 best_103)) (.int .i64 best_103) h5 rfl rfl ?_)
        refine g_yes (Eq.trans (b := .bool ((iand .i64 q_126 1) == 1)) rfl (congrArg V.bool hg6)) (g_v1 (t := 27) (u := (.int .i64 best_103)) (.bool (decide (best_103 < 0))) rfl rfl rfl ?_)
        refine g_yes (Eq.trans (b := .bool ((iand .i64 q_126 1) == 1)) rfl (congrArg V.bool hg6)) (g_v1 (t := 28) (u := (.bool (decide (best_103 < 0)))) (.bool (decide (best_103 < 0))) rfl rfl rfl ?_)
        refine split_on (c := decide (best_103 < 0)) h (fun hg9 h => ?_) (fun hg9 h => ?_)
        · refine g_no (Eq.trans (b := .bool (decide (best_103 < 0))) rfl (congrArg V.bool hg9)) ?_
          refine g_no (Eq.trans (b := .bool (decide (best_103 < 0))) rfl (congrArg V.bool hg9)) ?_
          refine g_no (Eq.trans (b := .bool (decide (best_103 < 0))) rfl (congrArg V.bool hg9)) ?_
          refine g_no (Eq.trans (b := .bool (decide (best_103 < 0))) rfl (congrArg V.bool hg9)) ?_
          refine g_no (Eq.trans (b := .bool (decide (best_103 < 0))) rfl (congrArg V.bool hg9)) ?_
          refine g_no (Eq.trans (b := .bool (decide (best_103 < 0))) rfl (congrArg V.bool hg9)) ?_
          refine g_no (Eq.trans (b := .bool (decide (best_103 < 0))) rfl (congrArg V.bool hg9)) ?_
          refine g_no (Eq.trans (b := .bool (decide (best_103 < 0))) rfl (congrArg V.bool hg9)) ?_
          refine g_no (Eq.trans (b := .bool (decide (best_103 < 0))) rfl (congrArg V.bool hg9)) ?_
          refine g_yes (Eq.trans (b := .bool ((iand .i64 q_126 1) == 1)) rfl (congrArg V.bool hg6)) (g_v2 (t1 := 29) (t2 := 38) (u1 := (.bool true)) (u2 := (.tup [])) (.bool true) (Eq.trans (b := .bool (decide (best_103 < 0))) rfl (congrArg V.bool hg9)) rfl rfl rfl ?_)
          refine g_v2 (t1 := 26) (t2 := 39) (u1 := (.bool true)) (u2 := (.bool true)) (.bool true) (Eq.trans (b := .bool ((iand .i64 q_126 1) == 1)) rfl (congrArg V.bool hg6)) rfl rfl rfl ?_
          refine g_end ?_
          refine e_end ?_
          refine renew [(1, (.ref (.bx 1) 0 [] (.agg [(.int .i64 g_1.1), (Enc.enc (g_1.2 : List (Int × Int)))]))), (2, (.sl .nl (Enc.shp Int) 0 [])), (3, (encO (.at 3 []) (.of (out_45 : List Int)))), (4, (.int .i64 code_46)), (5, (.int .i64 best_103)), (6, (.int .i64 x_104)), (40, (.bool true))] ⟨h1, h2, h3, h4, h5, h6, rfl⟩ ?_
          rintro s ⟨h1, h2, h3, h4, h5, h6, h40⟩
          exact t_f105_j2 H g_1 out_45 code_46 best_103 x_104 c1 Hc1 (s_l6Widths_l1 F g_1 out_45 code_46 c1 k) ih true _ ⟨h1, h2, h3, h4, h5, h6, h40⟩ h
        · refine g_yes (Eq.trans (b := .bool (decide (best_103 < 0))) rfl (congrArg V.bool hg9)) (g_v1 (t := 3) (u := (encO (.at 3 []) (.of (out_45 : List Int)))) (encO (.at 3 []) (.of (out_45 : List Int))) h3 rfl rfl ?_)
          refine g_yes (Eq.trans (b := .bool (decide (best_103 < 0))) rfl (congrArg V.bool hg9)) (g_v1 (t := 4) (u := (.int .i64 code_46)) (.int .i64 code_46) h4 rfl rfl ?_)
          refine g_yes (Eq.trans (b := .bool (decide (best_103 < 0))) rfl (congrArg V.bool hg9)) (g_v1 (t := 6) (u := (.int .i64 x_104)) (.int .i64 x_104) h6 rfl rfl ?_)
          obtain ⟨q_127, E_q_127, h⟩ := bind_some h
          refine g_yes (Eq.trans (b := .bool (decide (best_103 < 0))) rfl (congrArg V.bool hg9)) (g_v (.int .i64 q_127) (ev_shl rfl rfl E_q_127) ?_)
          refine g_yes (Eq.trans (b := .bool (decide (best_103 < 0))) rfl (congrArg V.bool hg9)) (g_v2 (t1 := 31) (t2 := 33) (u1 := (.int .i64 code_46)) (u2 := (.int .i64 q_127)) (.int .i64 (w64 (code_46 - q_127))) rfl rfl rfl rfl ?_)
          obtain ⟨e_128, E_e_128, h⟩ := bind_some h
          refine g_yes (Eq.trans (b := .bool (decide (best_103 < 0))) rfl (congrArg V.bool hg9)) (g_v (.ref (.at 3 []) ((w64 (code_46 - q_127)).toNat) [] (.int .i64 e_128)) (ev_idxO (o := (.of out_45)) rfl rfl E_e_128 rfl) ?_)
          refine g_yes (Eq.trans (b := .bool (decide (best_103 < 0))) rfl (congrArg V.bool hg9)) (g_v1 (t := 35) (u := (.ref (.at 3 []) ((w64 (code_46 - q_127)).toNat) [] (.int .i64 e_128))) (.int .i64 e_128) rfl rfl rfl ?_)
          refine g_yes (Eq.trans (b := .bool (decide (best_103 < 0))) rfl (congrArg V.bool hg9)) (g_v1 (t := 5) (u := (.int .i64 best_103)) (.int .i64 best_103) h5 rfl rfl ?_)
          refine g_yes (Eq.trans (b := .bool (decide (best_103 < 0))) rfl (congrArg V.bool hg9)) (g_v2 (t1 := 36) (t2 := 37) (u1 := (.int .i64 e_128)) (u2 := (.int .i64 best_103)) (.bool (decide (e_128 < best_103))) rfl rfl rfl rfl ?_)
          refine g_yes (Eq.trans (b := .bool ((iand .i64 q_126 1) == 1)) rfl (congrArg V.bool hg6)) (g_v2 (t1 := 29) (t2 := 38) (u1 := (.bool false)) (u2 := (.bool (decide (e_128 < best_103)))) (.bool (decide (e_128 < best_103))) (Eq.trans (b := .bool (decide (best_103 < 0))) rfl (congrArg V.bool hg9)) rfl rfl rfl ?_)
          refine g_v2 (t1 := 26) (t2 := 39) (u1 := (.bool true)) (u2 := (.bool (decide (e_128 < best_103)))) (.bool (decide (e_128 < best_103))) (Eq.trans (b := .bool ((iand .i64 q_126 1) == 1)) rfl (congrArg V.bool hg6)) rfl rfl rfl ?_
          refine g_end ?_
          refine e_end ?_
          refine renew [(1, (.ref (.bx 1) 0 [] (.agg [(.int .i64 g_1.1), (Enc.enc (g_1.2 : List (Int × Int)))]))), (2, (.sl .nl (Enc.shp Int) 0 [])), (3, (encO (.at 3 []) (.of (out_45 : List Int)))), (4, (.int .i64 code_46)), (5, (.int .i64 best_103)), (6, (.int .i64 x_104)), (40, (.bool (decide (e_128 < best_103))))] ⟨h1, h2, h3, h4, h5, h6, rfl⟩ ?_
          rintro s ⟨h1, h2, h3, h4, h5, h6, h40⟩
          exact t_f105_j2 H g_1 out_45 code_46 best_103 x_104 c1 Hc1 (s_l6Widths_l1 F g_1 out_45 code_46 c1 k) ih (decide (e_128 < best_103)) _ ⟨h1, h2, h3, h4, h5, h6, h40⟩ h
      · refine g_no (Eq.trans (b := .bool ((iand .i64 q_126 1) == 1)) rfl (congrArg V.bool hg6)) ?_
        refine g_no (Eq.trans (b := .bool ((iand .i64 q_126 1) == 1)) rfl (congrArg V.bool hg6)) ?_
        refine g_no (Eq.trans (b := .bool ((iand .i64 q_126 1) == 1)) rfl (congrArg V.bool hg6)) ?_
        refine g_skip rfl ?_
        refine g_skip rfl ?_
        refine g_skip rfl ?_
        refine g_skip rfl ?_
        refine g_skip rfl ?_
        refine g_skip rfl ?_
        refine g_skip rfl ?_
        refine g_skip rfl ?_
        refine g_skip rfl ?_
        refine g_no (Eq.trans (b := .bool ((iand .i64 q_126 1) == 1)) rfl (congrArg V.bool hg6)) ?_
        refine g_v2 (t1 := 26) (t2 := 39) (u1 := (.bool false)) (u2 := (.tup [])) (.bool false) (Eq.trans (b := .bool ((iand .i64 q_126 1) == 1)) rfl (congrArg V.bool hg6)) rfl rfl rfl ?_
        refine g_end ?_
        refine e_end ?_
        refine renew [(1, (.ref (.bx 1) 0 [] (.agg [(.int .i64 g_1.1), (Enc.enc (g_1.2 : List (Int × Int)))]))), (2, (.sl .nl (Enc.shp Int) 0 [])), (3, (encO (.at 3 []) (.of (out_45 : List Int)))), (4, (.int .i64 code_46)), (5, (.int .i64 best_103)), (6, (.int .i64 x_104)), (40, (.bool false))] ⟨h1, h2, h3, h4, h5, h6, rfl⟩ ?_
        rintro s ⟨h1, h2, h3, h4, h5, h6, h40⟩
        exact t_f105_j2 H g_1 out_45 code_46 best_103 x_104 c1 Hc1 (s_l6Widths_l1 F g_1 out_45 code_46 c1 k) ih false _ ⟨h1, h2, h3, h4, h5, h6, h40⟩ h
    · refine .exit ?_
      refine .esq ?_
      refine .elp ?_
      refine .ebk ?_
      refine .nsq ?_
      refine run_reg ?_
      refine e_clr ?_
      refine e_end ?_
      refine g_v1 (t := 3) (u := (encO (.at 3 []) (.of (out_45 : List Int)))) (encO (.at 3 []) (.of (out_45 : List Int))) (keep_clear (s := s) (pk := [58, 59]) h3 rfl (map_encO (r := 3) (p := []) rfl rfl)) rfl rfl ?_
      refine g_v1 (t := 5) (u := (.int .i64 best_103)) (.int .i64 best_103) (keep_clear (s := s) (pk := [58, 59]) h5 rfl rfl) rfl rfl ?_
      refine g_v1 (t := 1) (u := (.ref (.bx 1) 0 [] (.agg [(.int .i64 g_1.1), (Enc.enc (g_1.2 : List (Int × Int)))]))) (.agg [(.int .i64 g_1.1), (Enc.enc (g_1.2 : List (Int × Int)))]) (keep_clear (s := s) (pk := [58, 59]) h1 rfl (map_bx rfl (map_agg (maps_cons rfl (maps_cons (Enc.map_enc _ (g_1.2 : List (Int × Int))) maps_nil))))) rfl rfl ?_
      refine g_v1 (t := 1) (u := (.ref (.bx 1) 0 [] (.agg [(.int .i64 g_1.1), (Enc.enc (g_1.2 : List (Int × Int)))]))) (.ref (.bx 1) 0 [0] (.int .i64 g_1.1)) (keep_clear (s := s) (pk := [58, 59]) h1 rfl (map_bx rfl (map_agg (maps_cons rfl (maps_cons (Enc.map_enc _ (g_1.2 : List (Int × Int))) maps_nil))))) rfl rfl ?_
      refine g_v1 (t := 51) (u := (.ref (.bx 1) 0 [0] (.int .i64 g_1.1))) (.int .i64 g_1.1) rfl rfl rfl ?_
      refine g_v1 (t := 4) (u := (.int .i64 code_46)) (.int .i64 code_46) (keep_clear (s := s) (pk := [58, 59]) h4 rfl rfl) rfl rfl ?_
      obtain ⟨r_129, E_r_129, h⟩ := bind_some h
      refine g_call (m := 0) (al := false) (r := (Enc.enc (r_129 : (List Int)))) [Enc.enc (g_1.1 : Int), Enc.enc (code_46 : Int)] (ta_cons (v := (.int .i64 g_1.1)) rfl rfl rfl (ta_cons (v := (.int .i64 code_46)) rfl rfl rfl ta_nil)) (H.c78 _ _ _ E_r_129) H.g78 rfl rfl rfl rfl ?_
      obtain ⟨r_130, E_r_130, h⟩ := bind_some h
      refine g_call (m := 0) (al := true) (r := (Enc.enc (r_130 : (List Int)))) [Enc.enc (g_1 : (Int × (List (Int × Int)))), Enc.enc (r_129 : (List Int))] (ta_cons (v := (.agg [(.int .i64 g_1.1), (Enc.enc (g_1.2 : List (Int × Int)))])) rfl rfl (Enc.erase_enc (g_1 : (Int × (List (Int × Int))))) (ta_cons (v := (Enc.enc (r_129 : List Int))) rfl rfl (Enc.erase_enc (r_129 : (List Int))) ta_nil)) (H.c79 _ _ _ E_r_130) H.g79 (hal_of (ht_cons (v := (.agg [(.int .i64 g_1.1), (Enc.enc (g_1.2 : List (Int × Int)))])) rfl rfl rfl (ht_cons (v := (Enc.enc (r_129 : List Int))) rfl rfl rfl ht_nil))) rfl rfl rfl ?_
      refine g_v (.int .i64 (r_130.length : Int)) (ev_len (xs := r_130) rfl) ?_
      obtain ⟨r_131, E_r_131, h⟩ := bind_some h
      refine g_call (m := 0) (al := false) (r := (Enc.enc (r_131 : Int))) [Enc.enc (best_103 : Int), Enc.enc ((r_130.length : Int) : Int)] (ta_cons (v := (.int .i64 best_103)) rfl rfl rfl (ta_cons (v := (.int .i64 (r_130.length : Int))) rfl rfl rfl ta_nil)) (H.c47 _ _ _ E_r_131) H.g47 rfl rfl rfl rfl ?_
      refine g_litL [(57, (.int .i64 r_131))] [Enc.enc (r_131 : Int)] rfl rfl rfl (gone_clear (s := s) (pk := [58, 59]) (t := 58) rfl) ?_
      obtain ⟨ap_132, E_ap_132, h⟩ := bind_some h
      refine g_app (q := 3) (p := []) (o := (.of (out_45 : List Int))) (ys := ([r_131] : List Int)) (t2 := (.at 58 [])) (lo2 := 0) rfl rfl rfl (gone_clear (s := s) (pk := [58, 59]) (t := 59) rfl) (appN_L (o := (.of (out_45 : List Int))) E_ap_132 trivial) (fun s_11 ha_11 => ?_)
      refine g_v1 (t := 59) (u := (encO (.at 59 []) (.of (ap_132 : List Int)))) (encO (.at 59 []) (.of (ap_132 : List Int))) rfl rfl rfl ?_
      refine g_end ?_
      refine e_home (r := 59) (x := 3) (v := (encO (.at 59 []) (.of (ap_132 : List Int)))) (by exact rfl) rfl (fun s_12 hg_12 => ?_)
      refine e_end ?_
      refine renew [(1, (.ref (.bx 1) 0 [] (.agg [(.int .i64 g_1.1), (Enc.enc (g_1.2 : List (Int × Int)))]))), (2, (.sl .nl (Enc.shp Int) 0 [])), (3, (encO (.at 3 []) (.of (ap_132 : List Int)))), (4, (.int .i64 code_46))] ⟨(hg_12 1 (.ref (.bx 1) 0 [] (.agg [(.int .i64 g_1.1), (Enc.enc (g_1.2 : List (Int × Int)))])) (.ref (.bx 1) 0 [] (.agg [(.int .i64 g_1.1), (Enc.enc (g_1.2 : List (Int × Int)))])) (show s_11 1 = (.ref (.bx 1) 0 [] (.agg [(.int .i64 g_1.1), (Enc.enc (g_1.2 : List (Int × Int)))])) from keep_app ha_11 (keep_clear (s := s) (pk := [58, 59]) h1 rfl (map_bx rfl (map_agg (maps_cons rfl (maps_cons (Enc.map_enc _ (g_1.2 : List (Int × Int))) maps_nil))))) (map_bx rfl (map_agg (maps_cons rfl (maps_cons (Enc.map_enc _ (g_1.2 : List (Int × Int))) maps_nil))))) (map_bx rfl (map_agg (maps_cons rfl (maps_cons (Enc.map_enc _ (g_1.2 : List (Int × Int))) maps_nil))))), (hg_12 2 (.sl .nl (Enc.shp Int) 0 []) (.sl .nl (Enc.shp Int) 0 []) (show s_11 2 = (.sl .nl (Enc.shp Int) 0 []) from keep_app ha_11 (keep_clear (s := s) (pk := [58, 59]) h2 rfl rfl) rfl) rfl), (hg_12 3 (encO (.at 59 []) (.of (ap_132 : List Int))) (encO (.at 3 []) (.of (ap_132 : List Int))) rfl (map_encO (r := 59) (p := []) rfl rfl)), (hg_12 4 (.int .i64 code_46) (.int .i64 code_46) (show s_11 4 = (.int .i64 code_46) from keep_app ha_11 (keep_clear (s := s) (pk := [58, 59]) h4 rfl rfl) rfl) rfl)⟩ ?_
      rintro s ⟨h1, h2, h3, h4⟩
      refine .nbk ?_
      refine .nsq ?_
      refine run_reg ?_
      refine e_end ?_
      refine g_v1 (t := 4) (u := (.int .i64 code_46)) (.int .i64 code_46) h4 rfl rfl ?_
      refine g_v1 (t := 13) (u := (.int .i64 code_46)) (.int .i64 (w64 (code_46 + 1))) rfl rfl rfl ?_
      refine g_v1 (t := 14) (u := (.int .i64 (w64 (code_46 + 1)))) (.int .i64 (w64 (code_46 + 1))) rfl rfl rfl ?_
      refine g_end ?_
      refine e_end ?_
      refine renew [(1, (.ref (.bx 1) 0 [] (.agg [(.int .i64 g_1.1), (Enc.enc (g_1.2 : List (Int × Int)))]))), (2, (.sl .nl (Enc.shp Int) 0 [])), (3, (encO (.at 3 []) (.of (ap_132 : List Int)))), (4, (.int .i64 (w64 (code_46 + 1))))] ⟨h1, h2, h3, rfl⟩ ?_
      rintro s ⟨h1, h2, h3, h4⟩
      refine .nlp ?_
      exact Hc1 ap_132 (w64 (code_46 + 1)) _ ⟨h1, h2, h3, h4⟩ h
def s_l6Widths_l2 (F : Nat) (g_1 : (Int × (List (Int × Int))))  : Nat → (List Int) → Int → Option (List Int)
  | 0, _, _ => none
  | k + 1, out_45, code_46 =>
    (shlI .i64 1 g_1.1).bind fun q_90 =>
    bif decide (code_46 < q_90) then
      s_l6Widths_l1 F g_1 out_45 code_46 (s_l6Widths_l2 F g_1 k) F (-1) 0
    else
      some out_45
theorem t_f105_l2 (H : H105 D σ F) (g_1 : (Int × (List (Int × Int))))  : ∀ (k : Nat) (out_45 : (List Int)) (code_46 : Int) (s : Nat → V), Facts [(1, (.ref (.bx 1) 0 [] (.agg [(.int .i64 g_1.1), (Enc.enc (g_1.2 : List (Int × Int)))]))), (2, (.sl .nl (Enc.shp Int) 0 [])), (3, (encO (.at 3 []) (.of (out_45 : List Int)))), (4, (.int .i64 code_46))] s → s_l6Widths_l2 F g_1 k out_45 code_46 = some r → Run D σ (R105 r) (.run A105_1 [.lp A105_1, .bk 0, .sq A105_13]) s := by
  intro k
  induction k with
  | zero => intro out_45 code_46 s _ h; exact nomatch (h : (none : Option _) = some r)
  | succ k ih =>
    intro out_45 code_46 s hs h
    rw [s_l6Widths_l2] at h
    obtain ⟨h1, h2, h3, h4⟩ := hs
    refine .seq ?_
    refine .seq ?_
    refine run_reg ?_
    refine e_end ?_
    refine g_v1 (t := 4) (u := (.int .i64 code_46)) (.int .i64 code_46) h4 rfl rfl ?_
    refine g_v1 (t := 1) (u := (.ref (.bx 1) 0 [] (.agg [(.int .i64 g_1.1), (Enc.enc (g_1.2 : List (Int × Int)))]))) (.ref (.bx 1) 0 [0] (.int .i64 g_1.1)) h1 rfl rfl ?_
    refine g_v1 (t := 9) (u := (.ref (.bx 1) 0 [0] (.int .i64 g_1.1))) (.int .i64 g_1.1) rfl rfl rfl ?_
    obtain ⟨q_90, E_q_90, h⟩ := bind_some h
    refine g_v (.int .i64 q_90) (ev_shl rfl rfl E_q_90) ?_
    refine g_v2 (t1 := 8) (t2 := 11) (u1 := (.int .i64 code_46)) (u2 := (.int .i64 q_90)) (.bool (decide (code_46 < q_90))) rfl rfl rfl rfl ?_
    refine g_end ?_
    refine e_end ?_
    refine renew [(1, (.ref (.bx 1) 0 [] (.agg [(.int .i64 g_1.1), (Enc.enc (g_1.2 : List (Int × Int)))]))), (2, (.sl .nl (Enc.shp Int) 0 [])), (3, (encO (.at 3 []) (.of (out_45 : List Int)))), (4, (.int .i64 code_46)), (12, (.bool (decide (code_46 < q_90))))] ⟨h1, h2, h3, h4, rfl⟩ ?_
    rintro s ⟨h1, h2, h3, h4, h12⟩
    refine .nsq ?_
    refine run_cond (t := decide (code_46 < q_90)) h12 h (fun h => ?_) (fun h => ?_)
    · refine .skip ?_
      refine .nsq ?_
      refine .seq ?_
      refine .block ?_
      refine .seq ?_
      refine run_reg ?_
      refine e_end ?_
      refine g_v0 (.int .i64 (-1)) rfl rfl ?_
      refine g_end ?_
      refine e_end ?_
      refine renew [(1, (.ref (.bx 1) 0 [] (.agg [(.int .i64 g_1.1), (Enc.enc (g_1.2 : List (Int × Int)))]))), (2, (.sl .nl (Enc.shp Int) 0 [])), (3, (encO (.at 3 []) (.of (out_45 : List Int)))), (4, (.int .i64 code_46)), (5, (.int .i64 (-1)))] ⟨h1, h2, h3, h4, rfl⟩ ?_
      rintro s ⟨h1, h2, h3, h4, h5⟩
      refine .nsq ?_
      refine .seq ?_
      refine .seq ?_
      refine run_reg ?_
      refine e_end ?_
      refine g_v0 (.int .i64 0) rfl rfl ?_
      refine g_end ?_
      refine e_end ?_
      refine renew [(1, (.ref (.bx 1) 0 [] (.agg [(.int .i64 g_1.1), (Enc.enc (g_1.2 : List (Int × Int)))]))), (2, (.sl .nl (Enc.shp Int) 0 [])), (3, (encO (.at 3 []) (.of (out_45 : List Int)))), (4, (.int .i64 code_46)), (5, (.int .i64 (-1))), (6, (.int .i64 0))] ⟨h1, h2, h3, h4, h5, rfl⟩ ?_
      rintro s ⟨h1, h2, h3, h4, h5, h6⟩
      refine .nsq ?_
      refine .block ?_
      refine .loop ?_
      exact t_f105_l1 H g_1 out_45 code_46 (s_l6Widths_l2 F g_1 k) ih F (-1) 0 _ ⟨h1, h2, h3, h4, h5, h6⟩ h
    · refine .exit ?_
      refine .esq ?_
      refine .elp ?_
      refine .ebk ?_
      refine .nsq ?_
      refine .seq ?_
      refine run_reg ?_
      refine e_end ?_
      refine g_v1 (t := 3) (u := (encO (.at 3 []) (.of (out_45 : List Int)))) (encO (.at 3 []) (.of (out_45 : List Int))) h3 rfl rfl ?_
      refine g_v1 (t := 60) (u := (encO (.at 3 []) (.of (out_45 : List Int)))) (encO (.at 3 []) (.of (out_45 : List Int))) rfl rfl rfl ?_
      refine g_end ?_
      refine e_home (r := 3) (x := 2) (v := (encO (.at 3 []) (.of (out_45 : List Int)))) (by exact rfl) rfl (fun s_13 hg_13 => ?_)
      refine e_end ?_
      refine renew [(2, (encO (.at 2 []) (.of (out_45 : List Int))))] (hg_13 2 (encO (.at 3 []) (.of (out_45 : List Int))) (encO (.at 2 []) (.of (out_45 : List Int))) rfl (map_encO (r := 3) (p := []) rfl rfl)) ?_
      rintro s h2
      refine .nsq ?_
      refine .ret ?_
      have hr := Option.some.inj h
      subst hr
      exact rrA (res_tmp h2) (fin_retF (fin_own (o := .of out_45)) (mine_own rfl))
def s_l6Widths (F : Nat) (g_1 : (Int × (List (Int × Int)))) : Option (List Int) :=
  s_l6Widths_l2 F g_1 F [0] 1
theorem t105 (H : H105 D σ F) (g_1 : (Int × (List (Int × Int)))) (s : Nat → V) (hs : Facts [(0, (.agg [(.int .i64 g_1.1), (Enc.enc (g_1.2 : List (Int × Int)))]))] s) (h : s_l6Widths F g_1 = some r) : Run D σ (R105 r) (.run A105 []) s := by
  unfold s_l6Widths at h
  have h0 := hs
  refine .seq ?_
  refine run_reg ?_
  refine e_clr ?_
  refine e_end ?_
  refine g_box (.agg [(.int .i64 g_1.1), (Enc.enc (g_1.2 : List (Int × Int)))]) (rd_of (keep_clear (s := s) (pk := [1]) h0 rfl (map_agg (maps_cons rfl (maps_cons (Enc.map_enc _ (g_1.2 : List (Int × Int))) maps_nil)))) rfl) (gone_clear (s := s) (pk := [1]) (t := 1) rfl) rfl ?_
  refine g_v0 (.sl .nl (Enc.shp Int) 0 []) rfl rfl ?_
  refine g_end ?_
  refine e_end ?_
  refine renew [(1, (.ref (.bx 1) 0 [] (.agg [(.int .i64 g_1.1), (Enc.enc (g_1.2 : List (Int × Int)))]))), (2, (.sl .nl (Enc.shp Int) 0 []))] ⟨rfl, rfl⟩ ?_
  rintro s ⟨h1, h2⟩
  refine .nsq ?_
  refine .seq ?_
  refine run_reg ?_
  refine e_clr ?_
  refine e_end ?_
  refine g_litL [] [Enc.enc (0 : Int)] trivial rfl rfl (gone_clear (s := s) (pk := [7]) (t := 7) rfl) ?_
  refine g_v1 (t := 7) (u := (encO (.at 7 []) (.of ([0] : List Int)))) (encO (.at 7 []) (.of ([0] : List Int))) rfl rfl rfl ?_
  refine g_end ?_
  refine e_home (r := 7) (x := 3) (v := (encO (.at 7 []) (.of ([0] : List Int)))) (by exact rfl) rfl (fun s_3 hg_3 => ?_)
  refine e_end ?_
  refine renew [(1, (.ref (.bx 1) 0 [] (.agg [(.int .i64 g_1.1), (Enc.enc (g_1.2 : List (Int × Int)))]))), (2, (.sl .nl (Enc.shp Int) 0 [])), (3, (encO (.at 3 []) (.of ([0] : List Int))))] ⟨(hg_3 1 (.ref (.bx 1) 0 [] (.agg [(.int .i64 g_1.1), (Enc.enc (g_1.2 : List (Int × Int)))])) (.ref (.bx 1) 0 [] (.agg [(.int .i64 g_1.1), (Enc.enc (g_1.2 : List (Int × Int)))])) (keep_clear (s := s) (pk := [7]) h1 rfl (map_bx rfl (map_agg (maps_cons rfl (maps_cons (Enc.map_enc _ (g_1.2 : List (Int × Int))) maps_nil))))) (map_bx rfl (map_agg (maps_cons rfl (maps_cons (Enc.map_enc _ (g_1.2 : List (Int × Int))) maps_nil))))), (hg_3 2 (.sl .nl (Enc.shp Int) 0 []) (.sl .nl (Enc.shp Int) 0 []) (keep_clear (s := s) (pk := [7]) h2 rfl rfl) rfl), (hg_3 3 (encO (.at 7 []) (.of ([0] : List Int))) (encO (.at 3 []) (.of ([0] : List Int))) rfl (map_encO (r := 7) (p := []) rfl rfl))⟩ ?_
  rintro s ⟨h1, h2, h3⟩
  refine .nsq ?_
  refine .seq ?_
  refine .seq ?_
  refine run_reg ?_
  refine e_end ?_
  refine g_v0 (.int .i64 1) rfl rfl ?_
  refine g_end ?_
  refine e_end ?_
  refine renew [(1, (.ref (.bx 1) 0 [] (.agg [(.int .i64 g_1.1), (Enc.enc (g_1.2 : List (Int × Int)))]))), (2, (.sl .nl (Enc.shp Int) 0 [])), (3, (encO (.at 3 []) (.of ([0] : List Int)))), (4, (.int .i64 1))] ⟨h1, h2, h3, rfl⟩ ?_
  rintro s ⟨h1, h2, h3, h4⟩
  refine .nsq ?_
  refine .block ?_
  refine .loop ?_
  exact t_f105_l2 H g_1 F [0] 1 _ ⟨h1, h2, h3, h4⟩ h
end
def e105 (F : Nat) : Ent := ⟨105, da (fun (x : ((Int × (List (Int × Int))) × Unit)) => s_l6Widths F x.1) (fun (r : (List Int)) => (Enc.enc (r : (List Int)))), 0, false, selF []⟩
theorem p105 {F : Nat} {x0 : (Int × (List (Int × Int)))} {r : (List Int)} (h : s_l6Widths F x0 = some r) : (e105 F).den [Enc.enc x0] = some (Enc.enc (r : (List Int))) := da_put (f := fun (x : ((Int × (List (Int × Int))) × Unit)) => s_l6Widths F x.1) (t := fun (r : (List Int)) => (Enc.enc (r : (List Int)))) (x0, ()) h
theorem o105 {D : Den} {σ : Sig} {F : Nat} (hF : Fits2 Try.prog D σ) (H : H105 D σ F) : (e105 F).Ok Try.prog := by
  refine ⟨fun args r h => ?_, ⟨Try.f105, Try.func105, rfl, rfl⟩⟩
  obtain ⟨⟨x0, _⟩, y, rfl, hy, rfl⟩ := da_open h
  exact contract_run hF (by kernel_rfl) Try.func105 rfl c105 (show 1 ≤ Try.f105.ntmps by decide) (t105 H x0 _ rfl hy)
/- loop.example/g01109/spec.l6Pathwidth -/
def A54_1 : AC := (AC.seq (AC.reg [] [(I.mk (some 3) none false (X.v (A.load (Sh.ag [Sh.s, Sh.p]) (O.t 1)))), (I.mk (some 4) none false (X.call (O.k (V.fn 105 [] [])) [(O.t 3)])), (I.mk (some 5) none false (X.v (A.fld (O.t 1) 0 0))), (I.mk (some 6) none false (X.v (A.load Sh.s (O.t 5)))), (I.mk (some 7) none false (X.v (A.bin BinOp.shl (O.k (V.int IntKind.i64 (Int.ofNat 1))) (O.t 6)))), (I.mk (some 8) none false (X.v (A.bin BinOp.sub (O.t 7) (O.k (V.int IntKind.i64 (Int.ofNat 1)))))), (I.mk (some 9) none false (X.v (A.idx (O.t 4) (O.t 8) 1))), (I.mk (some 10) none false (X.v (A.load Sh.s (O.t 9)))), (I.mk (some 2) none false (X.v (A.mov (O.t 10))))] []) AC.ret)
def A54 : AC := (AC.seq (AC.reg [.clr [1]] [(I.mk (some 1) none false (X.box (O.t 0))), (I.mk (some 2) none false (X.v (A.mov (O.k (V.int IntKind.i64 (Int.ofNat 0))))))] []) A54_1)
def an54 : List An := [{ id := 0, pre := [.clr [1]], ep := [], lin := [], sp := [] }]
theorem c54 : cC Try.prog Try.f54.ntmps an54 (Try.f54.body.getD .skip) = some A54 := by kernel_rfl
structure H54 (D : Den) (σ : Sig) (F : Nat) : Prop where
  c105 : ∀ (x0 : (Int × (List (Int × Int)))) r, s_l6Widths F x0 = some r → D 105 [Enc.enc x0] = some (Enc.enc (r : (List Int)))
  g105 : σ 105 = some (0, false)
abbrev R54 (r : Int) : (Nat → V) → Prop := RR Try.prog [.tmp 2] 0 false (Enc.enc (r : Int))
section
variable {D : Den} {σ : Sig} {F : Nat} {r : Int}
def s_l6Pathwidth (F : Nat) (g_1 : (Int × (List (Int × Int)))) : Option Int :=
  (s_l6Widths F g_1).bind fun r_2 =>
  (shlI .i64 1 g_1.1).bind fun q_3 =>
  (idx r_2 (w64 (q_3 - 1))).bind fun e_4 =>
  some e_4
theorem t54 (H : H54 D σ F) (g_1 : (Int × (List (Int × Int)))) (s : Nat → V) (hs : Facts [(0, (.agg [(.int .i64 g_1.1), (Enc.enc (g_1.2 : List (Int × Int)))]))] s) (h : s_l6Pathwidth F g_1 = some r) : Run D σ (R54 r) (.run A54 []) s := by
  unfold s_l6Pathwidth at h
  have h0 := hs
  refine .seq ?_
  refine run_reg ?_
  refine e_clr ?_
  refine e_end ?_
  refine g_box (.agg [(.int .i64 g_1.1), (Enc.enc (g_1.2 : List (Int × Int)))]) (rd_of (keep_clear (s := s) (pk := [1]) h0 rfl (map_agg (maps_cons rfl (maps_cons (Enc.map_enc _ (g_1.2 : List (Int × Int))) maps_nil)))) rfl) (gone_clear (s := s) (pk := [1]) (t := 1) rfl) rfl ?_
  refine g_v0 (.int .i64 0) rfl rfl ?_
  refine g_end ?_
  refine e_end ?_
  refine renew [(1, (.ref (.bx 1) 0 [] (.agg [(.int .i64 g_1.1), (Enc.enc (g_1.2 : List (Int × Int)))]))), (2, (.int .i64 0))] ⟨rfl, rfl⟩ ?_
  rintro s ⟨h1, h2⟩
  refine .nsq ?_
  refine .seq ?_
  refine run_reg ?_
  refine e_end ?_
  refine g_v1 (t := 1) (u := (.ref (.bx 1) 0 [] (.agg [(.int .i64 g_1.1), (Enc.enc (g_1.2 : List (Int × Int)))]))) (.agg [(.int .i64 g_1.1), (Enc.enc (g_1.2 : List (Int × Int)))]) h1 rfl rfl ?_
  obtain ⟨r_2, E_r_2, h⟩ := bind_some h
  refine g_call (m := 0) (al := false) (r := (Enc.enc (r_2 : (List Int)))) [Enc.enc (g_1 : (Int × (List (Int × Int))))] (ta_cons (v := (.agg [(.int .i64 g_1.1), (Enc.enc (g_1.2 : List (Int × Int)))])) rfl rfl (Enc.erase_enc (g_1 : (Int × (List (Int × Int))))) ta_nil) (H.c105 _ _ E_r_2) H.g105 rfl rfl rfl rfl ?_
  refine g_v1 (t := 1) (u := (.ref (.bx 1) 0 [] (.agg [(.int .i64 g_1.1), (Enc.enc (g_1.2 : List (Int × Int)))]))) (.ref (.bx 1) 0 [0] (.int .i64 g_1.1)) h1 rfl rfl ?_
  refine g_v1 (t := 5) (u := (.ref (.bx 1) 0 [0] (.int .i64 g_1.1))) (.int .i64 g_1.1) rfl rfl rfl ?_
  obtain ⟨q_3, E_q_3, h⟩ := bind_some h
  refine g_v (.int .i64 q_3) (ev_shl rfl rfl E_q_3) ?_
  refine g_v1 (t := 7) (u := (.int .i64 q_3)) (.int .i64 (w64 (q_3 - 1))) rfl rfl rfl ?_
  obtain ⟨e_4, E_e_4, h⟩ := bind_some h
  refine g_v (.ref .sh 0 [] (.int .i64 e_4)) (ev_idx (t := .sh) (lo := 0) (xs := r_2) rfl rfl E_e_4 rfl rfl) ?_
  refine g_v1 (t := 9) (u := (.ref .sh 0 [] (.int .i64 e_4))) (.int .i64 e_4) rfl rfl rfl ?_
  refine g_v1 (t := 10) (u := (.int .i64 e_4)) (.int .i64 e_4) rfl rfl rfl ?_
  refine g_end ?_
  refine e_end ?_
  refine renew [(2, (.int .i64 e_4))] rfl ?_
  rintro s h2
  refine .nsq ?_
  refine .ret ?_
  have hr := Option.some.inj h
  subst hr
  exact rrA (res_tmp h2) rfl
end
def e54 (F : Nat) : Ent := ⟨54, da (fun (x : ((Int × (List (Int × Int))) × Unit)) => s_l6Pathwidth F x.1) (fun (r : Int) => (Enc.enc (r : Int))), 0, false, selF []⟩
theorem p54 {F : Nat} {x0 : (Int × (List (Int × Int)))} {r : Int} (h : s_l6Pathwidth F x0 = some r) : (e54 F).den [Enc.enc x0] = some (Enc.enc (r : Int)) := da_put (f := fun (x : ((Int × (List (Int × Int))) × Unit)) => s_l6Pathwidth F x.1) (t := fun (r : Int) => (Enc.enc (r : Int))) (x0, ()) h
theorem o54 {D : Den} {σ : Sig} {F : Nat} (hF : Fits2 Try.prog D σ) (H : H54 D σ F) : (e54 F).Ok Try.prog := by
  refine ⟨fun args r h => ?_, ⟨Try.f54, Try.func54, rfl, rfl⟩⟩
  obtain ⟨⟨x0, _⟩, y, rfl, hy, rfl⟩ := da_open h
  exact contract_run hF (by kernel_rfl) Try.func54 rfl c54 (show 1 ≤ Try.f54.ntmps by decide) (t54 H x0 _ rfl hy)
/- loop.example/g01109/spec.PathwidthOf -/
def A22_2 : AC := (AC.cond (O.t 6) (AC.seq (AC.reg [] [(I.mk (some 2) none false (X.v (A.mov (O.k (V.int IntKind.i64 (Int.ofNat 0)))))), (I.mk (some 3) none false (X.v (A.mov (O.k (V.bool false)))))] []) AC.ret) AC.skip)
def A22_3 : AC := (AC.seq (AC.reg [] [(I.mk (some 7) none false (X.v (A.load (Sh.ag [Sh.s, Sh.p]) (O.t 1)))), (I.mk (some 8) none false (X.call (O.k (V.fn 54 [] [])) [(O.t 7)])), (I.mk (some 2) none false (X.v (A.mov (O.t 8)))), (I.mk (some 3) none false (X.v (A.mov (O.k (V.bool true)))))] []) AC.ret)
def A22_1 : AC := (AC.seq (AC.seq (AC.reg [] [(I.mk (some 4) none false (X.v (A.load (Sh.ag [Sh.s, Sh.p]) (O.t 1)))), (I.mk (some 5) none false (X.call (O.k (V.fn 45 [] [])) [(O.t 4)])), (I.mk (some 6) none false (X.v (A.un UnOp.not (O.t 5))))] []) A22_2) A22_3)
def A22 : AC := (AC.seq (AC.reg [.clr [1]] [(I.mk (some 1) none false (X.box (O.t 0))), (I.mk (some 2) none false (X.v (A.mov (O.k (V.int IntKind.i64 (Int.ofNat 0)))))), (I.mk (some 3) none false (X.v (A.mov (O.k (V.bool false)))))] []) A22_1)
def an22 : List An := [{ id := 0, pre := [.clr [1]], ep := [], lin := [], sp := [] }]
theorem c22 : cC Try.prog Try.f22.ntmps an22 (Try.f22.body.getD .skip) = some A22 := by kernel_rfl
structure H22 (D : Den) (σ : Sig) (F : Nat) : Prop where
  c45 : ∀ (x0 : (Int × (List (Int × Int)))) r, s_l2Good F x0 = some r → D 45 [Enc.enc x0] = some (Enc.enc (r : Bool))
  g45 : σ 45 = some (0, false)
  c54 : ∀ (x0 : (Int × (List (Int × Int)))) r, s_l6Pathwidth F x0 = some r → D 54 [Enc.enc x0] = some (Enc.enc (r : Int))
  g54 : σ 54 = some (0, false)
abbrev R22 (r : (Int × Bool)) : (Nat → V) → Prop := RR Try.prog [.tmp 2, .tmp 3] 0 false (.tup [Enc.enc (r.1 : Int), Enc.enc (r.2 : Bool)])
section
variable {D : Den} {σ : Sig} {F : Nat} {r : (Int × Bool)}
def s_PathwidthOf (F : Nat) (g_1 : (Int × (List (Int × Int)))) : Option (Int × Bool) :=
  (s_l2Good F g_1).bind fun r_2 =>
  bif (!r_2) then
    some (0, false)
  else
    (s_l6Pathwidth F g_1).bind fun r_3 =>
    some (r_3, true)
theorem t22 (H : H22 D σ F) (g_1 : (Int × (List (Int × Int)))) (s : Nat → V) (hs : Facts [(0, (.agg [(.int .i64 g_1.1), (Enc.enc (g_1.2 : List (Int × Int)))]))] s) (h : s_PathwidthOf F g_1 = some r) : Run D σ (R22 r) (.run A22 []) s := by
  unfold s_PathwidthOf at h
  have h0 := hs
  refine .seq ?_
  refine run_reg ?_
  refine e_clr ?_
  refine e_end ?_
  refine g_box (.agg [(.int .i64 g_1.1), (Enc.enc (g_1.2 : List (Int × Int)))]) (rd_of (keep_clear (s := s) (pk := [1]) h0 rfl (map_agg (maps_cons rfl (maps_cons (Enc.map_enc _ (g_1.2 : List (Int × Int))) maps_nil)))) rfl) (gone_clear (s := s) (pk := [1]) (t := 1) rfl) rfl ?_
  refine g_v0 (.int .i64 0) rfl rfl ?_
  refine g_v0 (.bool false) rfl rfl ?_
  refine g_end ?_
  refine e_end ?_
  refine renew [(1, (.ref (.bx 1) 0 [] (.agg [(.int .i64 g_1.1), (Enc.enc (g_1.2 : List (Int × Int)))]))), (2, (.int .i64 0)), (3, (.bool false))] ⟨rfl, rfl, rfl⟩ ?_
  rintro s ⟨h1, h2, h3⟩
  refine .nsq ?_
  refine .seq ?_
  refine .seq ?_
  refine run_reg ?_
  refine e_end ?_
  refine g_v1 (t := 1) (u := (.ref (.bx 1) 0 [] (.agg [(.int .i64 g_1.1), (Enc.enc (g_1.2 : List (Int × Int)))]))) (.agg [(.int .i64 g_1.1), (Enc.enc (g_1.2 : List (Int × Int)))]) h1 rfl rfl ?_
  obtain ⟨r_2, E_r_2, h⟩ := bind_some h
  refine g_call (m := 0) (al := false) (r := (Enc.enc (r_2 : Bool))) [Enc.enc (g_1 : (Int × (List (Int × Int))))] (ta_cons (v := (.agg [(.int .i64 g_1.1), (Enc.enc (g_1.2 : List (Int × Int)))])) rfl rfl (Enc.erase_enc (g_1 : (Int × (List (Int × Int))))) ta_nil) (H.c45 _ _ E_r_2) H.g45 rfl rfl rfl rfl ?_
  refine g_v1 (t := 5) (u := (.bool r_2)) (.bool (!r_2)) rfl rfl rfl ?_
  refine g_end ?_
  refine e_end ?_
  refine renew [(1, (.ref (.bx 1) 0 [] (.agg [(.int .i64 g_1.1), (Enc.enc (g_1.2 : List (Int × Int)))]))), (2, (.int .i64 0)), (3, (.bool false)), (6, (.bool (!r_2)))] ⟨h1, h2, h3, rfl⟩ ?_
  rintro s ⟨h1, h2, h3, h6⟩
  refine .nsq ?_
  refine run_cond (t := (!r_2)) h6 h (fun h => ?_) (fun h => ?_)
  · refine .seq ?_
    refine run_reg ?_
    refine e_end ?_
    refine g_v0 (.int .i64 0) rfl rfl ?_
    refine g_v0 (.bool false) rfl rfl ?_
    refine g_end ?_
    refine e_end ?_
    refine renew [(1, (.ref (.bx 1) 0 [] (.agg [(.int .i64 g_1.1), (Enc.enc (g_1.2 : List (Int × Int)))]))), (2, (.int .i64 0)), (3, (.bool false))] ⟨h1, rfl, rfl⟩ ?_
    rintro s ⟨h1, h2, h3⟩
    refine .nsq ?_
    refine .ret ?_
    have hr := Option.some.inj h
    subst hr
    exact rrB (res_tmp h2) (res_tmp h3) rfl
  · refine .skip ?_
    refine .nsq ?_
    refine .seq ?_
    refine run_reg ?_
    refine e_end ?_
    refine g_v1 (t := 1) (u := (.ref (.bx 1) 0 [] (.agg [(.int .i64 g_1.1), (Enc.enc (g_1.2 : List (Int × Int)))]))) (.agg [(.int .i64 g_1.1), (Enc.enc (g_1.2 : List (Int × Int)))]) h1 rfl rfl ?_
    obtain ⟨r_3, E_r_3, h⟩ := bind_some h
    refine g_call (m := 0) (al := false) (r := (Enc.enc (r_3 : Int))) [Enc.enc (g_1 : (Int × (List (Int × Int))))] (ta_cons (v := (.agg [(.int .i64 g_1.1), (Enc.enc (g_1.2 : List (Int × Int)))])) rfl rfl (Enc.erase_enc (g_1 : (Int × (List (Int × Int))))) ta_nil) (H.c54 _ _ E_r_3) H.g54 rfl rfl rfl rfl ?_
    refine g_v1 (t := 8) (u := (.int .i64 r_3)) (.int .i64 r_3) rfl rfl rfl ?_
    refine g_v0 (.bool true) rfl rfl ?_
    refine g_end ?_
    refine e_end ?_
    refine renew [(2, (.int .i64 r_3)), (3, (.bool true))] ⟨rfl, rfl⟩ ?_
    rintro s ⟨h2, h3⟩
    refine .nsq ?_
    refine .ret ?_
    have hr := Option.some.inj h
    subst hr
    exact rrB (res_tmp h2) (res_tmp h3) rfl
end
def e22 (F : Nat) : Ent := ⟨22, da (fun (x : ((Int × (List (Int × Int))) × Unit)) => s_PathwidthOf F x.1) (fun (r : (Int × Bool)) => (.tup [Enc.enc (r.1 : Int), Enc.enc (r.2 : Bool)])), 0, false, selF []⟩
theorem p22 {F : Nat} {x0 : (Int × (List (Int × Int)))} {r : (Int × Bool)} (h : s_PathwidthOf F x0 = some r) : (e22 F).den [Enc.enc x0] = some (.tup [Enc.enc (r.1 : Int), Enc.enc (r.2 : Bool)]) := da_put (f := fun (x : ((Int × (List (Int × Int))) × Unit)) => s_PathwidthOf F x.1) (t := fun (r : (Int × Bool)) => (.tup [Enc.enc (r.1 : Int), Enc.enc (r.2 : Bool)])) (x0, ()) h
theorem o22 {D : Den} {σ : Sig} {F : Nat} (hF : Fits2 Try.prog D σ) (H : H22 D σ F) : (e22 F).Ok Try.prog := by
  refine ⟨fun args r h => ?_, ⟨Try.f22, Try.func22, rfl, rfl⟩⟩
  obtain ⟨⟨x0, _⟩, y, rfl, hy, rfl⟩ := da_open h
  exact contract_run hF (by kernel_rfl) Try.func22 rfl c22 (show 1 ≤ Try.f22.ntmps by decide) (t22 H x0 _ rfl hy)
/- loop.example/g01109/impl.within -/
def A66_1 : AC := (AC.seq (AC.reg [] [(I.mk (some 7) none false (X.v (A.mov (O.t 0)))), (I.mk (some 8) none false (X.v (A.mov (O.t 1)))), (I.mk (some 9) none false (X.v (A.bin BinOp.geq (O.t 7) (O.t 8)))), (I.mk (some 10) none false (X.v (A.mov (O.t 9)))), (I.mk (some 11) (some (10, true)) false (X.v (A.mov (O.t 0)))), (I.mk (some 12) (some (10, true)) false (X.v (A.mov (O.t 2)))), (I.mk (some 13) (some (10, true)) false (X.v (A.bin BinOp.leq (O.t 11) (O.t 12)))), (I.mk (some 14) none false (X.v (A.pick (O.t 10) (O.t 13) (O.k (V.bool false))))), (I.mk (some 6) none false (X.v (A.mov (O.t 14))))] []) AC.ret)
def A66 : AC := (AC.seq (AC.reg [] [(I.mk (some 6) none false (X.v (A.mov (O.k (V.bool false)))))] []) A66_1)
def an66 : List An := []
theorem c66 : cC Try.prog Try.f66.ntmps an66 (Try.f66.body.getD .skip) = some A66 := by kernel_rfl
structure H66 (D : Den) (σ : Sig) (F : Nat) : Prop where
  mk ::
abbrev R66 (r : Bool) : (Nat → V) → Prop := RR Try.prog [.tmp 6] 0 false (Enc.enc (r : Bool))
section
variable {D : Den} {σ : Sig} {F : Nat} {r : Bool}
def i_within (F : Nat) (n_1 : Int) (low_2 : Int) (high_3 : Int) : Option Bool :=
  bif decide (n_1 ≥ low_2) then
    some (decide (n_1 ≤ high_3))
  else
    some false
theorem t66 (H : H66 D σ F) (n_1 : Int) (low_2 : Int) (high_3 : Int) (s : Nat → V) (hs : Facts [(0, (.int .i64 n_1)), (1, (.int .i64 low_2)), (2, (.int .i64 high_3))] s) (h : i_within F n_1 low_2 high_3 = some r) : Run D σ (R66 r) (.run A66 []) s := by
  unfold i_within at h
  obtain ⟨h0, h1, h2⟩ := hs
  refine .seq ?_
  refine run_reg ?_
  refine e_end ?_
  refine g_v0 (.bool false) rfl rfl ?_
  refine g_end ?_
  refine e_end ?_
  refine renew [(0, (.int .i64 n_1)), (1, (.int .i64 low_2)), (2, (.int .i64 high_3)), (6, (.bool false))] ⟨h0, h1, h2, rfl⟩ ?_
  rintro s ⟨h0, h1, h2, h6⟩
  refine .nsq ?_
  refine .seq ?_
  refine run_reg ?_
  refine e_end ?_
  refine g_v1 (t := 0) (u := (.int .i64 n_1)) (.int .i64 n_1) h0 rfl rfl ?_
  refine g_v1 (t := 1) (u := (.int .i64 low_2)) (.int .i64 low_2) h1 rfl rfl ?_
  refine g_v2 (t1 := 7) (t2 := 8) (u1 := (.int .i64 n_1)) (u2 := (.int .i64 low_2)) (.bool (decide (n_1 ≥ low_2))) rfl rfl rfl rfl ?_
  refine g_v1 (t := 9) (u := (.bool (decide (n_1 ≥ low_2)))) (.bool (decide (n_1 ≥ low_2))) rfl rfl rfl ?_
  refine split_on (c := decide (n_1 ≥ low_2)) h (fun hg4 h => ?_) (fun hg4 h => ?_)
  · refine g_yes (Eq.trans (b := .bool (decide (n_1 ≥ low_2))) rfl (congrArg V.bool hg4)) (g_v1 (t := 0) (u := (.int .i64 n_1)) (.int .i64 n_1) h0 rfl rfl ?_)
    refine g_yes (Eq.trans (b := .bool (decide (n_1 ≥ low_2))) rfl (congrArg V.bool hg4)) (g_v1 (t := 2) (u := (.int .i64 high_3)) (.int .i64 high_3) h2 rfl rfl ?_)
    refine g_yes (Eq.trans (b := .bool (decide (n_1 ≥ low_2))) rfl (congrArg V.bool hg4)) (g_v2 (t1 := 11) (t2 := 12) (u1 := (.int .i64 n_1)) (u2 := (.int .i64 high_3)) (.bool (decide (n_1 ≤ high_3))) rfl rfl rfl rfl ?_)
    refine g_v2 (t1 := 10) (t2 := 13) (u1 := (.bool true)) (u2 := (.bool (decide (n_1 ≤ high_3)))) (.bool (decide (n_1 ≤ high_3))) (Eq.trans (b := .bool (decide (n_1 ≥ low_2))) rfl (congrArg V.bool hg4)) rfl rfl rfl ?_
    refine g_v1 (t := 14) (u := (.bool (decide (n_1 ≤ high_3)))) (.bool (decide (n_1 ≤ high_3))) rfl rfl rfl ?_
    refine g_end ?_
    refine e_end ?_
    refine renew [(6, (.bool (decide (n_1 ≤ high_3))))] rfl ?_
    rintro s h6
    refine .nsq ?_
    refine .ret ?_
    have hr := Option.some.inj h
    subst hr
    exact rrA (res_tmp h6) rfl
  · refine g_no (Eq.trans (b := .bool (decide (n_1 ≥ low_2))) rfl (congrArg V.bool hg4)) ?_
    refine g_no (Eq.trans (b := .bool (decide (n_1 ≥ low_2))) rfl (congrArg V.bool hg4)) ?_
    refine g_no (Eq.trans (b := .bool (decide (n_1 ≥ low_2))) rfl (congrArg V.bool hg4)) ?_
    refine g_v2 (t1 := 10) (t2 := 13) (u1 := (.bool false)) (u2 := (.tup [])) (.bool false) (Eq.trans (b := .bool (decide (n_1 ≥ low_2))) rfl (congrArg V.bool hg4)) rfl rfl rfl ?_
    refine g_v1 (t := 14) (u := (.bool false)) (.bool false) rfl rfl rfl ?_
    refine g_end ?_
    refine e_end ?_
    refine renew [(6, (.bool false))] rfl ?_
    rintro s h6
    refine .nsq ?_
    refine .ret ?_
    have hr := Option.some.inj h
    subst hr
    exact rrA (res_tmp h6) rfl
end
def e66 (F : Nat) : Ent := ⟨66, da (fun (x : (Int × Int × Int × Unit)) => i_within F x.1 x.2.1 x.2.2.1) (fun (r : Bool) => (Enc.enc (r : Bool))), 0, false, selF []⟩
theorem p66 {F : Nat} {x0 : Int} {x1 : Int} {x2 : Int} {r : Bool} (h : i_within F x0 x1 x2 = some r) : (e66 F).den [Enc.enc x0, Enc.enc x1, Enc.enc x2] = some (Enc.enc (r : Bool)) := da_put (f := fun (x : (Int × Int × Int × Unit)) => i_within F x.1 x.2.1 x.2.2.1) (t := fun (r : Bool) => (Enc.enc (r : Bool))) (x0, x1, x2, ()) h
theorem o66 {D : Den} {σ : Sig} {F : Nat} (hF : Fits2 Try.prog D σ) (H : H66 D σ F) : (e66 F).Ok Try.prog := by
  refine ⟨fun args r h => ?_, ⟨Try.f66, Try.func66, rfl, rfl⟩⟩
  obtain ⟨⟨x0, x1, x2, _⟩, y, rfl, hy, rfl⟩ := da_open h
  exact contract_run hF (by kernel_rfl) Try.func66 rfl c66 (show 3 ≤ Try.f66.ntmps by decide) (t66 H x0 x1 x2 _ ⟨rfl, rfl, rfl⟩ hy)
/- cmp.isNaN[int] -/
def A141_1 : AC := (AC.seq (AC.reg [] [(I.mk (some 3) none false (X.v (A.mov (O.t 0)))), (I.mk (some 4) none false (X.v (A.mov (O.t 0)))), (I.mk (some 5) none false (X.v (A.bin BinOp.neq (O.t 3) (O.t 4)))), (I.mk (some 2) none false (X.v (A.mov (O.t 5))))] []) AC.ret)
def A141 : AC := (AC.seq (AC.reg [] [(I.mk (some 2) none false (X.v (A.mov (O.k (V.bool false)))))] []) A141_1)
def an141 : List An := []
theorem c141 : cC Try.prog Try.f141.ntmps an141 (Try.f141.body.getD .skip) = some A141 := by kernel_rfl
structure H141 (D : Den) (σ : Sig) (F : Nat) : Prop where
  mk ::
abbrev R141 (r : Bool) : (Nat → V) → Prop := RR Try.prog [.tmp 2] 0 false (Enc.enc (r : Bool))
section
variable {D : Den} {σ : Sig} {F : Nat} {r : Bool}
def cmp_isNaN_int (F : Nat) (x_1 : Int) : Option Bool :=
  some (x_1 != x_1)
theorem t141 (H : H141 D σ F) (x_1 : Int) (s : Nat → V) (hs : Facts [(0, (.int .i64 x_1))] s) (h : cmp_isNaN_int F x_1 = some r) : Run D σ (R141 r) (.run A141 []) s := by
  unfold cmp_isNaN_int at h
  have h0 := hs
  refine .seq ?_
  refine run_reg ?_
  refine e_end ?_
  refine g_v0 (.bool false) rfl rfl ?_
  refine g_end ?_
  refine e_end ?_
  refine renew [(0, (.int .i64 x_1)), (2, (.bool false))] ⟨h0, rfl⟩ ?_
  rintro s ⟨h0, h2⟩
  refine .nsq ?_
  refine .seq ?_
  refine run_reg ?_
  refine e_end ?_
  refine g_v1 (t := 0) (u := (.int .i64 x_1)) (.int .i64 x_1) h0 rfl rfl ?_
  refine g_v1 (t := 0) (u := (.int .i64 x_1)) (.int .i64 x_1) h0 rfl rfl ?_
  refine g_v2 (t1 := 3) (t2 := 4) (u1 := (.int .i64 x_1)) (u2 := (.int .i64 x_1)) (.bool (x_1 != x_1)) rfl rfl rfl rfl ?_
  refine g_v1 (t := 5) (u := (.bool (x_1 != x_1))) (.bool (x_1 != x_1)) rfl rfl rfl ?_
  refine g_end ?_
  refine e_end ?_
  refine renew [(2, (.bool (x_1 != x_1)))] rfl ?_
  rintro s h2
  refine .nsq ?_
  refine .ret ?_
  have hr := Option.some.inj h
  subst hr
  exact rrA (res_tmp h2) rfl
end
def e141 (F : Nat) : Ent := ⟨141, da (fun (x : (Int × Unit)) => cmp_isNaN_int F x.1) (fun (r : Bool) => (Enc.enc (r : Bool))), 0, false, selF []⟩
theorem p141 {F : Nat} {x0 : Int} {r : Bool} (h : cmp_isNaN_int F x0 = some r) : (e141 F).den [Enc.enc x0] = some (Enc.enc (r : Bool)) := da_put (f := fun (x : (Int × Unit)) => cmp_isNaN_int F x.1) (t := fun (r : Bool) => (Enc.enc (r : Bool))) (x0, ()) h
theorem o141 {D : Den} {σ : Sig} {F : Nat} (hF : Fits2 Try.prog D σ) (H : H141 D σ F) : (e141 F).Ok Try.prog := by
  refine ⟨fun args r h => ?_, ⟨Try.f141, Try.func141, rfl, rfl⟩⟩
  obtain ⟨⟨x0, _⟩, y, rfl, hy, rfl⟩ := da_open h
  exact contract_run hF (by kernel_rfl) Try.func141 rfl c141 (show 1 ≤ Try.f141.ntmps by decide) (t141 H x0 _ rfl hy)
/- cmp.Compare[int] -/
def A131_5 : AC := (AC.cond (O.t 12) (AC.seq (AC.reg [] [(I.mk (some 4) none false (X.v (A.mov (O.k (V.int IntKind.i64 (Int.ofNat 0))))))] []) AC.ret) AC.skip)
def A131_6 : AC := (AC.seq (AC.reg [] [(I.mk (some 4) none false (X.v (A.mov (O.k (V.int IntKind.i64 (Int.negSucc 0))))))] []) AC.ret)
def A131_4 : AC := (AC.cond (O.t 11) (AC.seq (AC.seq (AC.reg [] [(I.mk (some 12) none false (X.v (A.mov (O.t 6))))] []) A131_5) A131_6) AC.skip)
def A131_8 : AC := (AC.cond (O.t 13) (AC.seq (AC.reg [] [(I.mk (some 4) none false (X.v (A.mov (O.k (V.int IntKind.i64 (Int.ofNat 1))))))] []) AC.ret) AC.skip)
def A131_10 : AC := (AC.cond (O.t 16) (AC.seq (AC.reg [] [(I.mk (some 4) none false (X.v (A.mov (O.k (V.int IntKind.i64 (Int.negSucc 0))))))] []) AC.ret) AC.skip)
def A131_12 : AC := (AC.cond (O.t 19) (AC.seq (AC.reg [] [(I.mk (some 4) none false (X.v (A.mov (O.k (V.int IntKind.i64 (Int.ofNat 1))))))] []) AC.ret) AC.skip)
def A131_13 : AC := (AC.seq (AC.reg [] [(I.mk (some 4) none false (X.v (A.mov (O.k (V.int IntKind.i64 (Int.ofNat 0))))))] []) AC.ret)
def A131_11 : AC := (AC.seq (AC.seq (AC.reg [] [(I.mk (some 17) none false (X.v (A.mov (O.t 0)))), (I.mk (some 18) none false (X.v (A.mov (O.t 1)))), (I.mk (some 19) none false (X.v (A.bin BinOp.gtr (O.t 17) (O.t 18))))] []) A131_12) A131_13)
def A131_9 : AC := (AC.seq (AC.seq (AC.reg [] [(I.mk (some 14) none false (X.v (A.mov (O.t 0)))), (I.mk (some 15) none false (X.v (A.mov (O.t 1)))), (I.mk (some 16) none false (X.v (A.bin BinOp.lss (O.t 14) (O.t 15))))] []) A131_10) A131_11)
def A131_7 : AC := (AC.seq (AC.seq (AC.reg [] [(I.mk (some 13) none false (X.v (A.mov (O.t 6))))] []) A131_8) A131_9)
def A131_3 : AC := (AC.seq (AC.seq (AC.reg [] [(I.mk (some 11) none false (X.v (A.mov (O.t 5))))] []) A131_4) A131_7)
def A131_2 : AC := (AC.seq (AC.reg [] [(I.mk (some 9) none false (X.v (A.mov (O.t 1)))), (I.mk (some 10) none false (X.call (O.k (V.fn 141 [] [])) [(O.t 9)])), (I.mk (some 6) none false (X.v (A.mov (O.t 10))))] []) A131_3)
def A131_1 : AC := (AC.seq (AC.reg [] [(I.mk (some 7) none false (X.v (A.mov (O.t 0)))), (I.mk (some 8) none false (X.call (O.k (V.fn 141 [] [])) [(O.t 7)])), (I.mk (some 5) none false (X.v (A.mov (O.t 8))))] []) A131_2)
def A131 : AC := (AC.seq (AC.reg [] [(I.mk (some 4) none false (X.v (A.mov (O.k (V.int IntKind.i64 (Int.ofNat 0))))))] []) A131_1)
def an131 : List An := []
theorem c131 : cC Try.prog Try.f131.ntmps an131 (Try.f131.body.getD .skip) = some A131 := by kernel_rfl
structure H131 (D : Den) (σ : Sig) (F : Nat) : Prop where
  c141 : ∀ (x0 : Int) r, cmp_isNaN_int F x0 = some r → D 141 [Enc.enc x0] = some (Enc.enc (r : Bool))
  g141 : σ 141 = some (0, false)
abbrev R131 (r : Int) : (Nat → V) → Prop := RR Try.prog [.tmp 4] 0 false (Enc.enc (r : Int))
section
variable {D : Den} {σ : Sig} {F : Nat} {r : Int}
def cmp_Compare_int (F : Nat) (x_1 : Int) (y_2 : Int) : Option Int :=
  (cmp_isNaN_int F x_1).bind fun r_3 =>
  (cmp_isNaN_int F y_2).bind fun r_4 =>
  bif r_3 then
    bif r_4 then
      some 0
    else
      some (-1)
  else
    bif r_4 then
      some 1
    else
      bif decide (x_1 < y_2) then
        some (-1)
      else
        bif decide (x_1 > y_2) then
          some 1
        else
          some 0
theorem t131 (H : H131 D σ F) (x_1 : Int) (y_2 : Int) (s : Nat → V) (hs : Facts [(0, (.int .i64 x_1)), (1, (.int .i64 y_2))] s) (h : cmp_Compare_int F x_1 y_2 = some r) : Run D σ (R131 r) (.run A131 []) s := by
  unfold cmp_Compare_int at h
  obtain ⟨h0, h1⟩ := hs
  refine .seq ?_
  refine run_reg ?_
  refine e_end ?_
  refine g_v0 (.int .i64 0) rfl rfl ?_
  refine g_end ?_
  refine e_end ?_
  refine renew [(0, (.int .i64 x_1)), (1, (.int .i64 y_2)), (4, (.int .i64 0))] ⟨h0, h1, rfl⟩ ?_
  rintro s ⟨h0, h1, h4⟩
  refine .nsq ?_
  refine .seq ?_
  refine run_reg ?_
  refine e_end ?_
  refine g_v1 (t := 0) (u := (.int .i64 x_1)) (.int .i64 x_1) h0 rfl rfl ?_
  obtain ⟨r_3, E_r_3, h⟩ := bind_some h
  refine g_call (m := 0) (al := false) (r := (Enc.enc (r_3 : Bool))) [Enc.enc (x_1 : Int)] (ta_cons (v := (.int .i64 x_1)) rfl rfl rfl ta_nil) (H.c141 _ _ E_r_3) H.g141 rfl rfl rfl rfl ?_
  refine g_v1 (t := 8) (u := (.bool r_3)) (.bool r_3) rfl rfl rfl ?_
  refine g_end ?_
  refine e_end ?_
  refine renew [(0, (.int .i64 x_1)), (1, (.int .i64 y_2)), (4, (.int .i64 0)), (5, (.bool r_3))] ⟨h0, h1, h4, rfl⟩ ?_
  rintro s ⟨h0, h1, h4, h5⟩
  refine .nsq ?_
  refine .seq ?_
  refine run_reg ?_
  refine e_end ?_
  refine g_v1 (t := 1) (u := (.int .i64 y_2)) (.int .i64 y_2) h1 rfl rfl ?_
  obtain ⟨r_4, E_r_4, h⟩ := bind_some h
  refine g_call (m := 0) (al := false) (r := (Enc.enc (r_4 : Bool))) [Enc.enc (y_2 : Int)] (ta_cons (v := (.int .i64 y_2)) rfl rfl rfl ta_nil) (H.c141 _ _ E_r_4) H.g141 rfl rfl rfl rfl ?_
  refine g_v1 (t := 10) (u := (.bool r_4)) (.bool r_4) rfl rfl rfl ?_
  refine g_end ?_
  refine e_end ?_
  refine renew [(0, (.int .i64 x_1)), (1, (.int .i64 y_2)), (4, (.int .i64 0)), (5, (.bool r_3)), (6, (.bool r_4))] ⟨h0, h1, h4, h5, rfl⟩ ?_
  rintro s ⟨h0, h1, h4, h5, h6⟩
  refine .nsq ?_
  refine .seq ?_
  refine .seq ?_
  refine run_reg ?_
  refine e_end ?_
  refine g_v1 (t := 5) (u := (.bool r_3)) (.bool r_3) h5 rfl rfl ?_
  refine g_end ?_
  refine e_end ?_
  refine renew [(0, (.int .i64 x_1)), (1, (.int .i64 y_2)), (4, (.int .i64 0)), (6, (.bool r_4)), (11, (.bool r_3))] ⟨h0, h1, h4, h6, rfl⟩ ?_
  rintro s ⟨h0, h1, h4, h6, h11⟩
  refine .nsq ?_
  refine run_cond (t := r_3) h11 h (fun h => ?_) (fun h => ?_)
  · refine .seq ?_
    refine .seq ?_
    refine run_reg ?_
    refine e_end ?_
    refine g_v1 (t := 6) (u := (.bool r_4)) (.bool r_4) h6 rfl rfl ?_
    refine g_end ?_
    refine e_end ?_
    refine renew [(0, (.int .i64 x_1)), (1, (.int .i64 y_2)), (4, (.int .i64 0)), (6, (.bool r_4)), (12, (.bool r_4))] ⟨h0, h1, h4, h6, rfl⟩ ?_
    rintro s ⟨h0, h1, h4, h6, h12⟩
    refine .nsq ?_
    refine run_cond (t := r_4) h12 h (fun h => ?_) (fun h => ?_)
    · refine .seq ?_
      refine run_reg ?_
      refine e_end ?_
      refine g_v0 (.int .i64 0) rfl rfl ?_
      refine g_end ?_
      refine e_end ?_
      refine renew [(0, (.int .i64 x_1)), (1, (.int .i64 y_2)), (4, (.int .i64 0)), (6, (.bool r_4))] ⟨h0, h1, rfl, h6⟩ ?_
      rintro s ⟨h0, h1, h4, h6⟩
      refine .nsq ?_
      refine .ret ?_
      have hr := Option.some.inj h
      subst hr
      exact rrA (res_tmp h4) rfl
    · refine .skip ?_
      refine .nsq ?_
      refine .seq ?_
      refine run_reg ?_
      refine e_end ?_
      refine g_v0 (.int .i64 (-1)) rfl rfl ?_
      refine g_end ?_
      refine e_end ?_
      refine renew [(0, (.int .i64 x_1)), (1, (.int .i64 y_2)), (4, (.int .i64 (-1))), (6, (.bool r_4))] ⟨h0, h1, rfl, h6⟩ ?_
      rintro s ⟨h0, h1, h4, h6⟩
      refine .nsq ?_
      refine .ret ?_
      have hr := Option.some.inj h
      subst hr
      exact rrA (res_tmp h4) rfl
  · refine .skip ?_
    refine .nsq ?_
    refine .seq ?_
    refine .seq ?_
    refine run_reg ?_
    refine e_end ?_
    refine g_v1 (t := 6) (u := (.bool r_4)) (.bool r_4) h6 rfl rfl ?_
    refine g_end ?_
    refine e_end ?_
    refine renew [(0, (.int .i64 x_1)), (1, (.int .i64 y_2)), (4, (.int .i64 0)), (13, (.bool r_4))] ⟨h0, h1, h4, rfl⟩ ?_
    rintro s ⟨h0, h1, h4, h13⟩
    refine .nsq ?_
    refine run_cond (t := r_4) h13 h (fun h => ?_) (fun h => ?_)
    · refine .seq ?_
      refine run_reg ?_
      refine e_end ?_
      refine g_v0 (.int .i64 1) rfl rfl ?_
      refine g_end ?_
      refine e_end ?_
      refine renew [(0, (.int .i64 x_1)), (1, (.int .i64 y_2)), (4, (.int .i64 1))] ⟨h0, h1, rfl⟩ ?_
      rintro s ⟨h0, h1, h4⟩
      refine .nsq ?_
      refine .ret ?_
      have hr := Option.some.inj h
      subst hr
      exact rrA (res_tmp h4) rfl
    · refine .skip ?_
      refine .nsq ?_
      refine .seq ?_
      refine .seq ?_
      refine run_reg ?_
      refine e_end ?_
      refine g_v1 (t := 0) (u := (.int .i64 x_1)) (.int .i64 x_1) h0 rfl rfl ?_
      refine g_v1 (t := 1) (u := (.int .i64 y_2)) (.int .i64 y_2) h1 rfl rfl ?_
      refine g_v2 (t1 := 14) (t2 := 15) (u1 := (.int .i64 x_1)) (u2 := (.int .i64 y_2)) (.bool (decide (x_1 < y_2))) rfl rfl rfl rfl ?_
      refine g_end ?_
      refine e_end ?_
      refine renew [(0, (.int .i64 x_1)), (1, (.int .i64 y_2)), (4, (.int .i64 0)), (16, (.bool (decide (x_1 < y_2))))] ⟨h0, h1, h4, rfl⟩ ?_
      rintro s ⟨h0, h1, h4, h16⟩
      refine .nsq ?_
      refine run_cond (t := decide (x_1 < y_2)) h16 h (fun h => ?_) (fun h => ?_)
      · refine .seq ?_
        refine run_reg ?_
        refine e_end ?_
        refine g_v0 (.int .i64 (-1)) rfl rfl ?_
        refine g_end ?_
        refine e_end ?_
        refine renew [(0, (.int .i64 x_1)), (1, (.int .i64 y_2)), (4, (.int .i64 (-1)))] ⟨h0, h1, rfl⟩ ?_
        rintro s ⟨h0, h1, h4⟩
        refine .nsq ?_
        refine .ret ?_
        have hr := Option.some.inj h
        subst hr
        exact rrA (res_tmp h4) rfl
      · refine .skip ?_
        refine .nsq ?_
        refine .seq ?_
        refine .seq ?_
        refine run_reg ?_
        refine e_end ?_
        refine g_v1 (t := 0) (u := (.int .i64 x_1)) (.int .i64 x_1) h0 rfl rfl ?_
        refine g_v1 (t := 1) (u := (.int .i64 y_2)) (.int .i64 y_2) h1 rfl rfl ?_
        refine g_v2 (t1 := 17) (t2 := 18) (u1 := (.int .i64 x_1)) (u2 := (.int .i64 y_2)) (.bool (decide (x_1 > y_2))) rfl rfl rfl rfl ?_
        refine g_end ?_
        refine e_end ?_
        refine renew [(4, (.int .i64 0)), (19, (.bool (decide (x_1 > y_2))))] ⟨h4, rfl⟩ ?_
        rintro s ⟨h4, h19⟩
        refine .nsq ?_
        refine run_cond (t := decide (x_1 > y_2)) h19 h (fun h => ?_) (fun h => ?_)
        · refine .seq ?_
          refine run_reg ?_
          refine e_end ?_
          refine g_v0 (.int .i64 1) rfl rfl ?_
          refine g_end ?_
          refine e_end ?_
          refine renew [(4, (.int .i64 1))] rfl ?_
          rintro s h4
          refine .nsq ?_
          refine .ret ?_
          have hr := Option.some.inj h
          subst hr
          exact rrA (res_tmp h4) rfl
        · refine .skip ?_
          refine .nsq ?_
          refine .seq ?_
          refine run_reg ?_
          refine e_end ?_
          refine g_v0 (.int .i64 0) rfl rfl ?_
          refine g_end ?_
          refine e_end ?_
          refine renew [(4, (.int .i64 0))] rfl ?_
          rintro s h4
          refine .nsq ?_
          refine .ret ?_
          have hr := Option.some.inj h
          subst hr
          exact rrA (res_tmp h4) rfl
end
def e131 (F : Nat) : Ent := ⟨131, da (fun (x : (Int × Int × Unit)) => cmp_Compare_int F x.1 x.2.1) (fun (r : Int) => (Enc.enc (r : Int))), 0, false, selF []⟩
theorem p131 {F : Nat} {x0 : Int} {x1 : Int} {r : Int} (h : cmp_Compare_int F x0 x1 = some r) : (e131 F).den [Enc.enc x0, Enc.enc x1] = some (Enc.enc (r : Int)) := da_put (f := fun (x : (Int × Int × Unit)) => cmp_Compare_int F x.1 x.2.1) (t := fun (r : Int) => (Enc.enc (r : Int))) (x0, x1, ()) h
theorem o131 {D : Den} {σ : Sig} {F : Nat} (hF : Fits2 Try.prog D σ) (H : H131 D σ F) : (e131 F).Ok Try.prog := by
  refine ⟨fun args r h => ?_, ⟨Try.f131, Try.func131, rfl, rfl⟩⟩
  obtain ⟨⟨x0, x1, _⟩, y, rfl, hy, rfl⟩ := da_open h
  exact contract_run hF (by kernel_rfl) Try.func131 rfl c131 (show 2 ≤ Try.f131.ntmps by decide) (t131 H x0 x1 _ ⟨rfl, rfl⟩ hy)
/- slices.Compare[[]int,int] -/
def A100_5 : AC := (AC.cond (O.t 19) (AC.seq (AC.reg [] [(I.mk (some 4) none false (X.v (A.mov (O.k (V.int IntKind.i64 (Int.ofNat 1))))))] []) AC.ret) AC.skip)
def A100_9 : AC := (AC.cond (O.t 28) (AC.seq (AC.reg [] [(I.mk (some 29) none false (X.v (A.mov (O.t 8)))), (I.mk (some 4) none false (X.v (A.mov (O.t 29))))] []) AC.ret) AC.skip)
def A100_8 : AC := (AC.seq (AC.reg [] [(I.mk (some 27) none false (X.v (A.mov (O.t 8)))), (I.mk (some 28) none false (X.v (A.bin BinOp.neq (O.t 27) (O.k (V.int IntKind.i64 (Int.ofNat 0))))))] []) A100_9)
def A100_7 : AC := (AC.seq (AC.reg [] [(I.mk (some 24) none false (X.v (A.mov (O.t 6)))), (I.mk (some 25) none false (X.v (A.mov (O.t 7)))), (I.mk (some 26) none false (X.call (O.k (V.fn 131 [] [])) [(O.t 24), (O.t 25)])), (I.mk (some 8) none false (X.v (A.mov (O.t 26))))] []) A100_8)
def A100_6 : AC := (AC.seq (AC.reg [] [(I.mk (some 20) none false (X.v (A.mov (O.t 1)))), (I.mk (some 21) none false (X.v (A.mov (O.t 5)))), (I.mk (some 22) none false (X.v (A.idx (O.t 20) (O.t 21) 1))), (I.mk (some 23) none false (X.v (A.load Sh.s (O.t 22)))), (I.mk (some 7) none false (X.v (A.mov (O.t 23))))] []) A100_7)
def A100_4 : AC := (AC.seq (AC.seq (AC.reg [] [(I.mk (some 16) none false (X.v (A.mov (O.t 5)))), (I.mk (some 17) none false (X.v (A.mov (O.t 1)))), (I.mk (some 18) none false (X.v (A.len (O.t 17)))), (I.mk (some 19) none false (X.v (A.bin BinOp.geq (O.t 16) (O.t 18))))] []) A100_5) A100_6)
def A100_10 : AC := (AC.reg [] [(I.mk (some 30) none false (X.v (A.bin BinOp.add (O.t 11) (O.k (V.int IntKind.i64 (Int.ofNat 1)))))), (I.mk (some 11) none false (X.v (A.mov (O.t 30))))] [])
def A100_3 : AC := (AC.seq (AC.block 1 (AC.seq (AC.reg [] [(I.mk (some 13) none false (X.v (A.mov (O.t 11)))), (I.mk (some 14) none false (X.v (A.idx (O.t 9) (O.t 11) 1))), (I.mk (some 15) none false (X.v (A.load Sh.s (O.t 14)))), (I.mk (some 5) none false (X.v (A.mov (O.t 13)))), (I.mk (some 6) none false (X.v (A.mov (O.t 15))))] []) A100_4)) A100_10)
def A100_2 : AC := (AC.seq (AC.cond (O.t 12) AC.skip (AC.exit 0)) A100_3)
def A100_1 : AC := (AC.seq (AC.reg [] [(I.mk (some 12) none false (X.v (A.bin BinOp.lss (O.t 11) (O.t 10))))] []) A100_2)
def A100_12 : AC := (AC.cond (O.t 35) (AC.seq (AC.reg [] [(I.mk (some 4) none false (X.v (A.mov (O.k (V.int IntKind.i64 (Int.negSucc 0))))))] []) AC.ret) AC.skip)
def A100_13 : AC := (AC.seq (AC.reg [] [(I.mk (some 4) none false (X.v (A.mov (O.k (V.int IntKind.i64 (Int.ofNat 0))))))] []) AC.ret)
def A100_11 : AC := (AC.seq (AC.seq (AC.reg [] [(I.mk (some 31) none false (X.v (A.mov (O.t 0)))), (I.mk (some 32) none false (X.v (A.len (O.t 31)))), (I.mk (some 33) none false (X.v (A.mov (O.t 1)))), (I.mk (some 34) none false (X.v (A.len (O.t 33)))), (I.mk (some 35) none false (X.v (A.bin BinOp.lss (O.t 32) (O.t 34))))] []) A100_12) A100_13)
def A100_15 : AC := (AC.block 0 (AC.loop A100_1))
def A100_14 : AC := (AC.seq (AC.seq (AC.reg [] [(I.mk (some 9) none false (X.v (A.mov (O.t 0)))), (I.mk (some 10) none false (X.v (A.len (O.t 9)))), (I.mk (some 11) none false (X.v (A.mov (O.k (V.int IntKind.i64 (Int.ofNat 0))))))] []) A100_15) A100_11)
def A100 : AC := (AC.seq (AC.reg [] [(I.mk (some 4) none false (X.v (A.mov (O.k (V.int IntKind.i64 (Int.ofNat 0))))))] []) A100_14)
def an100 : List An := []
theorem c100 : cC Try.prog Try.f100.ntmps an100 (Try.f100.body.getD .skip) = some A100 := by kernel_rfl
structure H100 (D : Den) (σ : Sig) (F : Nat) : Prop where
  c131 : ∀ (x0 : Int) (x1 : Int) r, cmp_Compare_int F x0 x1 = some r → D 131 [Enc.enc x0, Enc.enc x1] = some (Enc.enc (r : Int))
  g131 : σ 131 = some (0, false)
abbrev R100 (r : Int) : (Nat → V) → Prop := RR Try.prog [.tmp 4] 0 false (Enc.enc (r : Int))
section
variable {D : Den} {σ : Sig} {F : Nat} {r : Int}
def slices_Compare_l1 (F : Nat) (s1_1 : (List Int)) (s2_2 : (List Int))  : Nat → Int → Option Int
  | 0, _ => none
  | k + 1, t11_6 =>
    bif decide (t11_6 < (s1_1.length : Int)) then
      (idx s1_1 t11_6).bind fun e_10 =>
      bif decide (t11_6 ≥ (s2_2.length : Int)) then
        some 1
      else
        (idx s2_2 t11_6).bind fun e_11 =>
        (cmp_Compare_int F e_10 e_11).bind fun r_12 =>
        bif (r_12 != 0) then
          some r_12
        else
          (slices_Compare_l1 F s1_1 s2_2 k) (w64 (t11_6 + 1))
    else
      bif decide ((s1_1.length : Int) < (s2_2.length : Int)) then
        some (-1)
      else
        some 0
theorem t_f100_l1 (H : H100 D σ F) (s1_1 : (List Int)) (s2_2 : (List Int))  : ∀ (k : Nat) (t11_6 : Int) (s : Nat → V), Facts [(0, (Enc.enc (s1_1 : List Int))), (1, (Enc.enc (s2_2 : List Int))), (4, (.int .i64 0)), (9, (Enc.enc (s1_1 : List Int))), (10, (.int .i64 (s1_1.length : Int))), (11, (.int .i64 t11_6))] s → slices_Compare_l1 F s1_1 s2_2 k t11_6 = some r → Run D σ (R100 r) (.run A100_1 [.lp A100_1, .bk 0, .sq A100_11]) s := by
  intro k
  induction k with
  | zero => intro t11_6 s _ h; exact nomatch (h : (none : Option _) = some r)
  | succ k ih =>
    intro t11_6 s hs h
    rw [slices_Compare_l1] at h
    obtain ⟨h0, h1, h4, h9, h10, h11⟩ := hs
    refine .seq ?_
    refine run_reg ?_
    refine e_end ?_
    refine g_v2 (t1 := 11) (t2 := 10) (u1 := (.int .i64 t11_6)) (u2 := (.int .i64 (s1_1.length : Int))) (.bool (decide (t11_6 < (s1_1.length : Int)))) h11 h10 rfl rfl ?_
    refine g_end ?_
    refine e_end ?_
    refine renew [(0, (Enc.enc (s1_1 : List Int))), (1, (Enc.enc (s2_2 : List Int))), (4, (.int .i64 0)), (9, (Enc.enc (s1_1 : List Int))), (10, (.int .i64 (s1_1.length : Int))), (11, (.int .i64 t11_6)), (12, (.bool (decide (t11_6 < (s1_1.length : Int)))))] ⟨h0, h1, h4, h9, h10, h11, rfl⟩ ?_
    rintro s ⟨h0, h1, h4, h9, h10, h11, h12⟩
    refine .nsq ?_
    refine .seq ?_
    refine run_cond (t := decide (t11_6 < (s1_1.length : Int))) h12 h (fun h => ?_) (fun h => ?_)
    · refine .skip ?_
      refine .nsq ?_
      refine .seq ?_
      refine .block ?_
      refine .seq ?_
      refine run_reg ?_
      refine e_end ?_
      refine g_v1 (t := 11) (u := (.int .i64 t11_6)) (.int .i64 t11_6) h11 rfl rfl ?_
      obtain ⟨e_10, E_e_10, h⟩ := bind_some h
      refine g_v (.ref .sh 0 [] (.int .i64 e_10)) (ev_idx (t := .sh) (lo := 0) (xs := s1_1) h9 h11 E_e_10 rfl rfl) ?_
      refine g_v1 (t := 14) (u := (.ref .sh 0 [] (.int .i64 e_10))) (.int .i64 e_10) rfl rfl rfl ?_
      refine g_v1 (t := 13) (u := (.int .i64 t11_6)) (.int .i64 t11_6) rfl rfl rfl ?_
      refine g_v1 (t := 15) (u := (.int .i64 e_10)) (.int .i64 e_10) rfl rfl rfl ?_
      refine g_end ?_
      refine e_end ?_
      refine renew [(0, (Enc.enc (s1_1 : List Int))), (1, (Enc.enc (s2_2 : List Int))), (4, (.int .i64 0)), (5, (.int .i64 t11_6)), (6, (.int .i64 e_10)), (9, (Enc.enc (s1_1 : List Int))), (10, (.int .i64 (s1_1.length : Int))), (11, (.int .i64 t11_6))] ⟨h0, h1, h4, rfl, rfl, h9, h10, h11⟩ ?_
      rintro s ⟨h0, h1, h4, h5, h6, h9, h10, h11⟩
      refine .nsq ?_
      refine .seq ?_
      refine .seq ?_
      refine run_reg ?_
      refine e_end ?_
      refine g_v1 (t := 5) (u := (.int .i64 t11_6)) (.int .i64 t11_6) h5 rfl rfl ?_
      refine g_v1 (t := 1) (u := (Enc.enc (s2_2 : List Int))) (Enc.enc (s2_2 : List Int)) h1 rfl rfl ?_
      refine g_v (.int .i64 (s2_2.length : Int)) (ev_len (xs := s2_2) rfl) ?_
      refine g_v2 (t1 := 16) (t2 := 18) (u1 := (.int .i64 t11_6)) (u2 := (.int .i64 (s2_2.length : Int))) (.bool (decide (t11_6 ≥ (s2_2.length : Int)))) rfl rfl rfl rfl ?_
      refine g_end ?_
      refine e_end ?_
      refine renew [(0, (Enc.enc (s1_1 : List Int))), (1, (Enc.enc (s2_2 : List Int))), (4, (.int .i64 0)), (5, (.int .i64 t11_6)), (6, (.int .i64 e_10)), (9, (Enc.enc (s1_1 : List Int))), (10, (.int .i64 (s1_1.length : Int))), (11, (.int .i64 t11_6)), (19, (.bool (decide (t11_6 ≥ (s2_2.length : Int)))))] ⟨h0, h1, h4, h5, h6, h9, h10, h11, rfl⟩ ?_
      rintro s ⟨h0, h1, h4, h5, h6, h9, h10, h11, h19⟩
      refine .nsq ?_
      refine run_cond (t := decide (t11_6 ≥ (s2_2.length : Int))) h19 h (fun h => ?_) (fun h => ?_)
      · refine .seq ?_
        refine run_reg ?_
        refine e_end ?_
        refine g_v0 (.int .i64 1) rfl rfl ?_
        refine g_end ?_
        refine e_end ?_
        refine renew [(0, (Enc.enc (s1_1 : List Int))), (1, (Enc.enc (s2_2 : List Int))), (4, (.int .i64 1)), (5, (.int .i64 t11_6)), (6, (.int .i64 e_10)), (9, (Enc.enc (s1_1 : List Int))), (10, (.int .i64 (s1_1.length : Int))), (11, (.int .i64 t11_6))] ⟨h0, h1, rfl, h5, h6, h9, h10, h11⟩ ?_
        rintro s ⟨h0, h1, h4, h5, h6, h9, h10, h11⟩
        refine .nsq ?_
        refine .ret ?_
        have hr := Option.some.inj h
        subst hr
        exact rrA (res_tmp h4) rfl
      · refine .skip ?_
        refine .nsq ?_
        refine .seq ?_
        refine run_reg ?_
        refine e_end ?_
        refine g_v1 (t := 1) (u := (Enc.enc (s2_2 : List Int))) (Enc.enc (s2_2 : List Int)) h1 rfl rfl ?_
        refine g_v1 (t := 5) (u := (.int .i64 t11_6)) (.int .i64 t11_6) h5 rfl rfl ?_
        obtain ⟨e_11, E_e_11, h⟩ := bind_some h
        refine g_v (.ref .sh 0 [] (.int .i64 e_11)) (ev_idx (t := .sh) (lo := 0) (xs := s2_2) rfl rfl E_e_11 rfl rfl) ?_
        refine g_v1 (t := 22) (u := (.ref .sh 0 [] (.int .i64 e_11))) (.int .i64 e_11) rfl rfl rfl ?_
        refine g_v1 (t := 23) (u := (.int .i64 e_11)) (.int .i64 e_11) rfl rfl rfl ?_
        refine g_end ?_
        refine e_end ?_
        refine renew [(0, (Enc.enc (s1_1 : List Int))), (1, (Enc.enc (s2_2 : List Int))), (4, (.int .i64 0)), (6, (.int .i64 e_10)), (7, (.int .i64 e_11)), (9, (Enc.enc (s1_1 : List Int))), (10, (.int .i64 (s1_1.length : Int))), (11, (.int .i64 t11_6))] ⟨h0, h1, h4, h6, rfl, h9, h10, h11⟩ ?_
        rintro s ⟨h0, h1, h4, h6, h7, h9, h10, h11⟩
        refine .nsq ?_
        refine .seq ?_
        refine run_reg ?_
        refine e_end ?_
        refine g_v1 (t := 6) (u := (.int .i64 e_10)) (.int .i64 e_10) h6 rfl rfl ?_
        refine g_v1 (t := 7) (u := (.int .i64 e_11)) (.int .i64 e_11) h7 rfl rfl ?_
        obtain ⟨r_12, E_r_12, h⟩ := bind_some h
        refine g_call (m := 0) (al := false) (r := (Enc.enc (r_12 : Int))) [Enc.enc (e_10 : Int), Enc.enc (e_11 : Int)] (ta_cons (v := (.int .i64 e_10)) rfl rfl rfl (ta_cons (v := (.int .i64 e_11)) rfl rfl rfl ta_nil)) (H.c131 _ _ _ E_r_12) H.g131 rfl rfl rfl rfl ?_
        refine g_v1 (t := 26) (u := (.int .i64 r_12)) (.int .i64 r_12) rfl rfl rfl ?_
        refine g_end ?_
        refine e_end ?_
        refine renew [(0, (Enc.enc (s1_1 : List Int))), (1, (Enc.enc (s2_2 : List Int))), (4, (.int .i64 0)), (8, (.int .i64 r_12)), (9, (Enc.enc (s1_1 : List Int))), (10, (.int .i64 (s1_1.length : Int))), (11, (.int .i64 t11_6))] ⟨h0, h1, h4, rfl, h9, h10, h11⟩ ?_
        rintro s ⟨h0, h1, h4, h8, h9, h10, h11⟩
        refine .nsq ?_
        refine .seq ?_
        refine run_reg ?_
        refine e_end ?_
        refine g_v1 (t := 8) (u := (.int .i64 r_12)) (.int .i64 r_12) h8 rfl rfl ?_
        refine g_v1 (t := 27) (u := (.int .i64 r_12)) (.bool (r_12 != 0)) rfl rfl rfl ?_
        refine g_end ?_
        refine e_end ?_
        refine renew [(0, (Enc.enc (s1_1 : List Int))), (1, (Enc.enc (s2_2 : List Int))), (4, (.int .i64 0)), (8, (.int .i64 r_12)), (9, (Enc.enc (s1_1 : List Int))), (10, (.int .i64 (s1_1.length : Int))), (11, (.int .i64 t11_6)), (28, (.bool (r_12 != 0)))] ⟨h0, h1, h4, h8, h9, h10, h11, rfl⟩ ?_
        rintro s ⟨h0, h1, h4, h8, h9, h10, h11, h28⟩
        refine .nsq ?_
        refine run_cond (t := (r_12 != 0)) h28 h (fun h => ?_) (fun h => ?_)
        · refine .seq ?_
          refine run_reg ?_
          refine e_end ?_
          refine g_v1 (t := 8) (u := (.int .i64 r_12)) (.int .i64 r_12) h8 rfl rfl ?_
          refine g_v1 (t := 29) (u := (.int .i64 r_12)) (.int .i64 r_12) rfl rfl rfl ?_
          refine g_end ?_
          refine e_end ?_
          refine renew [(0, (Enc.enc (s1_1 : List Int))), (1, (Enc.enc (s2_2 : List Int))), (4, (.int .i64 r_12)), (9, (Enc.enc (s1_1 : List Int))), (10, (.int .i64 (s1_1.length : Int))), (11, (.int .i64 t11_6))] ⟨h0, h1, rfl, h9, h10, h11⟩ ?_
          rintro s ⟨h0, h1, h4, h9, h10, h11⟩
          refine .nsq ?_
          refine .ret ?_
          have hr := Option.some.inj h
          subst hr
          exact rrA (res_tmp h4) rfl
        · refine .skip ?_
          refine .nbk ?_
          refine .nsq ?_
          refine run_reg ?_
          refine e_end ?_
          refine g_v1 (t := 11) (u := (.int .i64 t11_6)) (.int .i64 (w64 (t11_6 + 1))) h11 rfl rfl ?_
          refine g_v1 (t := 30) (u := (.int .i64 (w64 (t11_6 + 1)))) (.int .i64 (w64 (t11_6 + 1))) rfl rfl rfl ?_
          refine g_end ?_
          refine e_end ?_
          refine renew [(0, (Enc.enc (s1_1 : List Int))), (1, (Enc.enc (s2_2 : List Int))), (4, (.int .i64 0)), (9, (Enc.enc (s1_1 : List Int))), (10, (.int .i64 (s1_1.length : Int))), (11, (.int .i64 (w64 (t11_6 + 1))))] ⟨h0, h1, h4, h9, h10, rfl⟩ ?_
          rintro s ⟨h0, h1, h4, h9, h10, h11⟩
          refine .nlp ?_
          exact ih (w64 (t11_6 + 1)) _ ⟨h0, h1, h4, h9, h10, h11⟩ h
    · refine .exit ?_
      refine .esq ?_
      refine .elp ?_
      refine .ebk ?_
      refine .nsq ?_
      refine .seq ?_
      refine .seq ?_
      refine run_reg ?_
      refine e_end ?_
      refine g_v1 (t := 0) (u := (Enc.enc (s1_1 : List Int))) (Enc.enc (s1_1 : List Int)) h0 rfl rfl ?_
      refine g_v (.int .i64 (s1_1.length : Int)) (ev_len (xs := s1_1) rfl) ?_
      refine g_v1 (t := 1) (u := (Enc.enc (s2_2 : List Int))) (Enc.enc (s2_2 : List Int)) h1 rfl rfl ?_
      refine g_v (.int .i64 (s2_2.length : Int)) (ev_len (xs := s2_2) rfl) ?_
      refine g_v2 (t1 := 32) (t2 := 34) (u1 := (.int .i64 (s1_1.length : Int))) (u2 := (.int .i64 (s2_2.length : Int))) (.bool (decide ((s1_1.length : Int) < (s2_2.length : Int)))) rfl rfl rfl rfl ?_
      refine g_end ?_
      refine e_end ?_
      refine renew [(4, (.int .i64 0)), (35, (.bool (decide ((s1_1.length : Int) < (s2_2.length : Int)))))] ⟨h4, rfl⟩ ?_
      rintro s ⟨h4, h35⟩
      refine .nsq ?_
      refine run_cond (t := decide ((s1_1.length : Int) < (s2_2.length : Int))) h35 h (fun h => ?_) (fun h => ?_)
      · refine .seq ?_
        refine run_reg ?_
        refine e_end ?_
        refine g_v0 (.int .i64 (-1)) rfl rfl ?_
        refine g_end ?_
        refine e_end ?_
        refine renew [(4, (.int .i64 (-1)))] rfl ?_
        rintro s h4
        refine .nsq ?_
        refine .ret ?_
        have hr := Option.some.inj h
        subst hr
        exact rrA (res_tmp h4) rfl
      · refine .skip ?_
        refine .nsq ?_
        refine .seq ?_
        refine run_reg ?_
        refine e_end ?_
        refine g_v0 (.int .i64 0) rfl rfl ?_
        refine g_end ?_
        refine e_end ?_
        refine renew [(4, (.int .i64 0))] rfl ?_
        rintro s h4
        refine .nsq ?_
        refine .ret ?_
        have hr := Option.some.inj h
        subst hr
        exact rrA (res_tmp h4) rfl
def slices_Compare (F : Nat) (s1_1 : (List Int)) (s2_2 : (List Int)) : Option Int :=
  slices_Compare_l1 F s1_1 s2_2 F 0
theorem t100 (H : H100 D σ F) (s1_1 : (List Int)) (s2_2 : (List Int)) (s : Nat → V) (hs : Facts [(0, (Enc.enc (s1_1 : List Int))), (1, (Enc.enc (s2_2 : List Int)))] s) (h : slices_Compare F s1_1 s2_2 = some r) : Run D σ (R100 r) (.run A100 []) s := by
  unfold slices_Compare at h
  obtain ⟨h0, h1⟩ := hs
  refine .seq ?_
  refine run_reg ?_
  refine e_end ?_
  refine g_v0 (.int .i64 0) rfl rfl ?_
  refine g_end ?_
  refine e_end ?_
  refine renew [(0, (Enc.enc (s1_1 : List Int))), (1, (Enc.enc (s2_2 : List Int))), (4, (.int .i64 0))] ⟨h0, h1, rfl⟩ ?_
  rintro s ⟨h0, h1, h4⟩
  refine .nsq ?_
  refine .seq ?_
  refine .seq ?_
  refine run_reg ?_
  refine e_end ?_
  refine g_v1 (t := 0) (u := (Enc.enc (s1_1 : List Int))) (Enc.enc (s1_1 : List Int)) h0 rfl rfl ?_
  refine g_v (.int .i64 (s1_1.length : Int)) (ev_len (xs := s1_1) rfl) ?_
  refine g_v0 (.int .i64 0) rfl rfl ?_
  refine g_end ?_
  refine e_end ?_
  refine renew [(0, (Enc.enc (s1_1 : List Int))), (1, (Enc.enc (s2_2 : List Int))), (4, (.int .i64 0)), (9, (Enc.enc (s1_1 : List Int))), (10, (.int .i64 (s1_1.length : Int))), (11, (.int .i64 0))] ⟨h0, h1, h4, rfl, rfl, rfl⟩ ?_
  rintro s ⟨h0, h1, h4, h9, h10, h11⟩
  refine .nsq ?_
  refine .block ?_
  refine .loop ?_
  exact t_f100_l1 H s1_1 s2_2 F 0 _ ⟨h0, h1, h4, h9, h10, h11⟩ h
end
def e100 (F : Nat) : Ent := ⟨100, da (fun (x : ((List Int) × (List Int) × Unit)) => slices_Compare F x.1 x.2.1) (fun (r : Int) => (Enc.enc (r : Int))), 0, false, selF []⟩
theorem p100 {F : Nat} {x0 : (List Int)} {x1 : (List Int)} {r : Int} (h : slices_Compare F x0 x1 = some r) : (e100 F).den [Enc.enc x0, Enc.enc x1] = some (Enc.enc (r : Int)) := da_put (f := fun (x : ((List Int) × (List Int) × Unit)) => slices_Compare F x.1 x.2.1) (t := fun (r : Int) => (Enc.enc (r : Int))) (x0, x1, ()) h
theorem o100 {D : Den} {σ : Sig} {F : Nat} (hF : Fits2 Try.prog D σ) (H : H100 D σ F) : (e100 F).Ok Try.prog := by
  refine ⟨fun args r h => ?_, ⟨Try.f100, Try.func100, rfl, rfl⟩⟩
  obtain ⟨⟨x0, x1, _⟩, y, rfl, hy, rfl⟩ := da_open h
  exact contract_run hF (by kernel_rfl) Try.func100 rfl c100 (show 2 ≤ Try.f100.ntmps by decide) (t100 H x0 x1 _ ⟨rfl, rfl⟩ hy)
/- loop.example/g01109/impl.IsGraph -/
def A50_5 : AC := (AC.cond (O.t 48) (AC.seq (AC.reg [] [(I.mk (some 2) none false (X.v (A.mov (O.k (V.bool false)))))] []) AC.ret) AC.skip)
def A50_4 : AC := (AC.seq (AC.reg [] [(I.mk (some 17) none false (X.v (A.idxA (O.t 4) (O.k (V.int IntKind.i64 (Int.ofNat 0))) 2 1))), (I.mk (some 18) none false (X.v (A.load Sh.s (O.t 17)))), (I.mk (some 19) none false (X.v (A.bin BinOp.lss (O.t 18) (O.k (V.int IntKind.i64 (Int.ofNat 0)))))), (I.mk (some 20) none false (X.v (A.mov (O.t 19)))), (I.mk (some 21) (some (20, false)) false (X.v (A.idxA (O.t 4) (O.k (V.int IntKind.i64 (Int.ofNat 0))) 2 1))), (I.mk (some 22) (some (20, false)) false (X.v (A.load Sh.s (O.t 21)))), (I.mk (some 23) (some (20, false)) false (X.v (A.idxA (O.t 4) (O.k (V.int IntKind.i64 (Int.ofNat 1))) 2 1))), (I.mk (some 24) (some (20, false)) false (X.v (A.load Sh.s (O.t 23)))), (I.mk (some 25) (some (20, false)) false (X.v (A.bin BinOp.geq (O.t 22) (O.t 24)))), (I.mk (some 26) none false (X.v (A.pick (O.t 20) (O.k (V.bool true)) (O.t 25)))), (I.mk (some 27) none false (X.v (A.mov (O.t 26)))), (I.mk (some 28) (some (27, false)) false (X.v (A.idxA (O.t 4) (O.k (V.int IntKind.i64 (Int.ofNat 1))) 2 1))), (I.mk (some 29) (some (27, false)) false (X.v (A.load Sh.s (O.t 28)))), (I.mk (some 30) (some (27, false)) false (X.v (A.fld (O.t 1) 0 0))), (I.mk (some 31) (some (27, false)) false (X.v (A.load Sh.s (O.t 30)))), (I.mk (some 32) (some (27, false)) false (X.v (A.bin BinOp.geq (O.t 29) (O.t 31)))), (I.mk (some 33) none false (X.v (A.pick (O.t 27) (O.k (V.bool true)) (O.t 32)))), (I.mk (some 34) none false (X.v (A.mov (O.t 33)))), (I.mk (some 35) (some (34, false)) false (X.v (A.mov (O.t 3)))), (I.mk (some 36) (some (34, false)) false (X.v (A.bin BinOp.gtr (O.t 35) (O.k (V.int IntKind.i64 (Int.ofNat 0)))))), (I.mk (some 37) (some (34, false)) false (X.v (A.mov (O.t 36)))), (I.mk (some 38) (some (37, true)) false (X.v (A.fld (O.t 1) 1 1))), (I.mk (some 39) (some (37, true)) false (X.v (A.load Sh.p (O.t 38)))), (I.mk (some 40) (some (37, true)) false (X.v (A.mov (O.t 3)))), (I.mk (some 41) (some (37, true)) false (X.v (A.bin BinOp.sub (O.t 40) (O.k (V.int IntKind.i64 (Int.ofNat 1)))))), (I.mk (some 42) (some (37, true)) false (X.v (A.idx (O.t 39) (O.t 41) 2))), (I.mk (some 43) (some (37, true)) false (X.v (A.sliceA (O.t 42) 2 Sh.s))), (I.mk (some 44) (some (37, true)) false (X.v (A.sliceA (O.t 4) 2 Sh.s))), (I.mk (some 45) (some (37, true)) false (X.call (O.k (V.fn 100 [] [])) [(O.t 43), (O.t 44)])), (I.mk (some 46) (some (37, true)) false (X.v (A.bin BinOp.geq (O.t 45) (O.k (V.int IntKind.i64 (Int.ofNat 0)))))), (I.mk (some 47) (some (34, false)) false (X.v (A.pick (O.t 37) (O.t 46) (O.k (V.bool false))))), (I.mk (some 48) none false (X.v (A.pick (O.t 34) (O.k (V.bool true)) (O.t 47))))] []) A50_5)
def A50_6 : AC := (AC.reg [] [(I.mk (some 49) none false (X.v (A.bin BinOp.add (O.t 12) (O.k (V.int IntKind.i64 (Int.ofNat 1)))))), (I.mk (some 12) none false (X.v (A.mov (O.t 49))))] [])
def A50_3 : AC := (AC.seq (AC.block 1 (AC.seq (AC.reg [.clr [4]] [(I.mk (some 14) none false (X.v (A.mov (O.t 12)))), (I.mk (some 15) none false (X.v (A.idx (O.t 10) (O.t 12) 2))), (I.mk (some 16) none false (X.v (A.load (Sh.ag [Sh.s, Sh.s]) (O.t 15)))), (I.mk (some 4) none false (X.alloc (V.agg [(V.int IntKind.i64 (Int.ofNat 0)), (V.int IntKind.i64 (Int.ofNat 0))]))), (I.mk (some 3) none false (X.v (A.mov (O.t 14)))), (I.mk none none false (X.store (Sh.ag [Sh.s, Sh.s]) (O.t 4) (O.t 16)))] []) A50_4)) A50_6)
def A50_2 : AC := (AC.seq (AC.cond (O.t 13) AC.skip (AC.exit 0)) A50_3)
def A50_1 : AC := (AC.seq (AC.reg [] [(I.mk (some 13) none false (X.v (A.bin BinOp.lss (O.t 12) (O.t 11))))] []) A50_2)
def A50_7 : AC := (AC.seq (AC.reg [] [(I.mk (some 2) none false (X.v (A.mov (O.k (V.bool true)))))] []) AC.ret)
def A50_9 : AC := (AC.cond (O.t 8) (AC.seq (AC.reg [] [(I.mk (some 2) none false (X.v (A.mov (O.k (V.bool false)))))] []) AC.ret) AC.skip)
def A50_11 : AC := (AC.block 0 (AC.loop A50_1))
def A50_10 : AC := (AC.seq (AC.seq (AC.reg [] [(I.mk (some 9) none false (X.v (A.fld (O.t 1) 1 1))), (I.mk (some 10) none false (X.v (A.load Sh.p (O.t 9)))), (I.mk (some 11) none false (X.v (A.len (O.t 10)))), (I.mk (some 12) none false (X.v (A.mov (O.k (V.int IntKind.i64 (Int.ofNat 0))))))] []) A50_11) A50_7)
def A50_8 : AC := (AC.seq (AC.seq (AC.reg [] [(I.mk (some 5) none false (X.v (A.fld (O.t 1) 0 0))), (I.mk (some 6) none false (X.v (A.load Sh.s (O.t 5)))), (I.mk (some 7) none false (X.call (O.k (V.fn 66 [] [])) [(O.t 6), (O.k (V.int IntKind.i64 (Int.ofNat 0))), (O.k (V.int IntKind.i64 (Int.ofNat 8)))])), (I.mk (some 8) none false (X.v (A.un UnOp.not (O.t 7))))] []) A50_9) A50_10)
def A50 : AC := (AC.seq (AC.reg [.clr [1]] [(I.mk (some 1) none false (X.box (O.t 0))), (I.mk (some 2) none false (X.v (A.mov (O.k (V.bool false)))))] []) A50_8)
def an50 : List An := [{ id := 0, pre := [.clr [1]], ep := [], lin := [], sp := [] }, { id := 5, pre := [.clr [4]], ep := [], lin := [], sp := [] }]
theorem c50 : cC Try.prog Try.f50.ntmps an50 (Try.f50.body.getD .skip) = some A50 := by kernel_rfl
structure H50 (D : Den) (σ : Sig) (F : Nat) : Prop where
  c66 : ∀ (x0 : Int) (x1 : Int) (x2 : Int) r, i_within F x0 x1 x2 = some r → D 66 [Enc.enc x0, Enc.enc x1, Enc.enc x2] = some (Enc.enc (r : Bool))
  g66 : σ 66 = some (0, false)
  c100 : ∀ (x0 : (List Int)) (x1 : (List Int)) r, slices_Compare F x0 x1 = some r → D 100 [Enc.enc x0, Enc.enc x1] = some (Enc.enc (r : Int))
  g100 : σ 100 = some (0, false)
abbrev R50 (r : Bool) : (Nat → V) → Prop := RR Try.prog [.tmp 2] 0 false (Enc.enc (r : Bool))
section
variable {D : Den} {σ : Sig} {F : Nat} {r : Bool}
def i_IsGraph_j1 (F : Nat) (g_1 : (Int × (List (Int × Int)))) (t12_9 : Int) (c1 : Int → Option Bool) (t48_19 : Bool) : Option Bool :=
  bif t48_19 then
    some false
  else
    c1 (w64 (t12_9 + 1))
theorem t_f50_j1 (H : H50 D σ F) (g_1 : (Int × (List (Int × Int)))) (t12_9 : Int) (c1 : Int → Option Bool) (Hc1 : ∀ (t12_9 : Int) (s : Nat → V), Facts [(1, (.ref (.bx 1) 0 [] (.agg [(.int .i64 g_1.1), (Enc.enc (g_1.2 : List (Int × Int)))]))), (2, (.bool false)), (10, (Enc.enc (g_1.2 : List (Int × Int)))), (11, (.int .i64 (g_1.2.length : Int))), (12, (.int .i64 t12_9))] s → c1 t12_9 = some r → Run D σ (R50 r) (.run A50_1 [.lp A50_1, .bk 0, .sq A50_7]) s) (t48_19 : Bool) (s : Nat → V) (hs : Facts [(1, (.ref (.bx 1) 0 [] (.agg [(.int .i64 g_1.1), (Enc.enc (g_1.2 : List (Int × Int)))]))), (2, (.bool false)), (10, (Enc.enc (g_1.2 : List (Int × Int)))), (11, (.int .i64 (g_1.2.length : Int))), (12, (.int .i64 t12_9)), (48, (.bool t48_19))] s) (h : i_IsGraph_j1 F g_1 t12_9 c1 t48_19 = some r) : Run D σ (R50 r) (.nrm [.sq A50_5, .bk 1, .sq A50_6, .lp A50_1, .bk 0, .sq A50_7]) s := by
  unfold i_IsGraph_j1 at h
  obtain ⟨h1, h2, h10, h11, h12, h48⟩ := hs
  refine .nsq ?_
  refine run_cond (t := t48_19) h48 h (fun h => ?_) (fun h => ?_)
  · refine .seq ?_
    refine run_reg ?_
    refine e_end ?_
    refine g_v0 (.bool false) rfl rfl ?_
    refine g_end ?_
    refine e_end ?_
    refine renew [(1, (.ref (.bx 1) 0 [] (.agg [(.int .i64 g_1.1), (Enc.enc (g_1.2 : List (Int × Int)))]))), (2, (.bool false)), (10, (Enc.enc (g_1.2 : List (Int × Int)))), (11, (.int .i64 (g_1.2.length : Int))), (12, (.int .i64 t12_9))] ⟨h1, rfl, h10, h11, h12⟩ ?_
    rintro s ⟨h1, h2, h10, h11, h12⟩
    refine .nsq ?_
    refine .ret ?_
    have hr := Option.some.inj h
    subst hr
    exact rrA (res_tmp h2) rfl
  · refine .skip ?_
    refine .nbk ?_
    refine .nsq ?_
    refine run_reg ?_
    refine e_end ?_
    refine g_v1 (t := 12) (u := (.int .i64 t12_9)) (.int .i64 (w64 (t12_9 + 1))) h12 rfl rfl ?_
    refine g_v1 (t := 49) (u := (.int .i64 (w64 (t12_9 + 1)))) (.int .i64 (w64 (t12_9 + 1))) rfl rfl rfl ?_
    refine g_end ?_
    refine e_end ?_
    refine renew [(1, (.ref (.bx 1) 0 [] (.agg [(.int .i64 g_1.1), (Enc.enc (g_1.2 : List (Int × Int)))]))), (2, (.bool false)), (10, (Enc.enc (g_1.2 : List (Int × Int)))), (11, (.int .i64 (g_1.2.length : Int))), (12, (.int .i64 (w64 (t12_9 + 1))))] ⟨h1, h2, h10, h11, rfl⟩ ?_
    rintro s ⟨h1, h2, h10, h11, h12⟩
    refine .nlp ?_
    exact Hc1 (w64 (t12_9 + 1)) _ ⟨h1, h2, h10, h11, h12⟩ h
def i_IsGraph_l1 (F : Nat) (g_1 : (Int × (List (Int × Int))))  : Nat → Int → Option Bool
  | 0, _ => none
  | k + 1, t12_9 =>
    bif decide (t12_9 < (g_1.2.length : Int)) then
      (idx g_1.2 t12_9).bind fun e_16 =>
      bif decide (e_16.1 < 0) then
        i_IsGraph_j1 F g_1 t12_9 (i_IsGraph_l1 F g_1 k) true
      else
        bif decide (e_16.1 ≥ e_16.2) then
          i_IsGraph_j1 F g_1 t12_9 (i_IsGraph_l1 F g_1 k) true
        else
          bif decide (e_16.2 ≥ g_1.1) then
            i_IsGraph_j1 F g_1 t12_9 (i_IsGraph_l1 F g_1 k) true
          else
            bif decide (t12_9 > 0) then
              (idx g_1.2 (w64 (t12_9 - 1))).bind fun e_20 =>
              (slices_Compare F [e_20.1, e_20.2] [e_16.1, e_16.2]).bind fun r_21 =>
              i_IsGraph_j1 F g_1 t12_9 (i_IsGraph_l1 F g_1 k) (decide (r_21 ≥ 0))
            else
              i_IsGraph_j1 F g_1 t12_9 (i_IsGraph_l1 F g_1 k) false
    else
      some true
theorem t_f50_l1 (H : H50 D σ F) (g_1 : (Int × (List (Int × Int))))  : ∀ (k : Nat) (t12_9 : Int) (s : Nat → V), Facts [(1, (.ref (.bx 1) 0 [] (.agg [(.int .i64 g_1.1), (Enc.enc (g_1.2 : List (Int × Int)))]))), (2, (.bool false)), (10, (Enc.enc (g_1.2 : List (Int × Int)))), (11, (.int .i64 (g_1.2.length : Int))), (12, (.int .i64 t12_9))] s → i_IsGraph_l1 F g_1 k t12_9 = some r → Run D σ (R50 r) (.run A50_1 [.lp A50_1, .bk 0, .sq A50_7]) s := by
  intro k
  induction k with
  | zero => intro t12_9 s _ h; exact nomatch (h : (none : Option _) = some r)
  | succ k ih =>
    intro t12_9 s hs h
    rw [i_IsGraph_l1] at h
    obtain ⟨h1, h2, h10, h11, h12⟩ := hs
    refine .seq ?_
    refine run_reg ?_
    refine e_end ?_
    refine g_v2 (t1 := 12) (t2 := 11) (u1 := (.int .i64 t12_9)) (u2 := (.int .i64 (g_1.2.length : Int))) (.bool (decide (t12_9 < (g_1.2.length : Int)))) h12 h11 rfl rfl ?_
    refine g_end ?_
    refine e_end ?_
    refine renew [(1, (.ref (.bx 1) 0 [] (.agg [(.int .i64 g_1.1), (Enc.enc (g_1.2 : List (Int × Int)))]))), (2, (.bool false)), (10, (Enc.enc (g_1.2 : List (Int × Int)))), (11, (.int .i64 (g_1.2.length : Int))), (12, (.int .i64 t12_9)), (13, (.bool (decide (t12_9 < (g_1.2.length : Int)))))] ⟨h1, h2, h10, h11, h12, rfl⟩ ?_
    rintro s ⟨h1, h2, h10, h11, h12, h13⟩
    refine .nsq ?_
    refine .seq ?_
    refine run_cond (t := decide (t12_9 < (g_1.2.length : Int))) h13 h (fun h => ?_) (fun h => ?_)
    · refine .skip ?_
      refine .nsq ?_
      refine .seq ?_
      refine .block ?_
      refine .seq ?_
      refine run_reg ?_
      refine e_clr ?_
      refine e_end ?_
      refine g_v1 (t := 12) (u := (.int .i64 t12_9)) (.int .i64 t12_9) (keep_clear (s := s) (pk := [4]) h12 rfl rfl) rfl rfl ?_
      obtain ⟨e_16, E_e_16, h⟩ := bind_some h
      refine g_v (.ref .sh 0 [] (.agg [(.int .i64 e_16.1), (.int .i64 e_16.2)])) (ev_idx (t := .sh) (lo := 0) (xs := g_1.2) (keep_clear (s := s) (pk := [4]) h10 rfl (Enc.map_enc _ (g_1.2 : List (Int × Int)))) (keep_clear (s := s) (pk := [4]) h12 rfl rfl) E_e_16 rfl rfl) ?_
      refine g_v1 (t := 15) (u := (.ref .sh 0 [] (.agg [(.int .i64 e_16.1), (.int .i64 e_16.2)]))) (.agg [(.int .i64 e_16.1), (.int .i64 e_16.2)]) rfl rfl rfl ?_
      refine g_alloc (gone_clear (s := s) (pk := [4]) (t := 4) rfl) ?_
      refine g_v1 (t := 14) (u := (.int .i64 t12_9)) (.int .i64 t12_9) rfl rfl rfl ?_
      refine g_store (.agg [(.int .i64 e_16.1), (.int .i64 e_16.2)]) (rd_of rfl rfl) (rd_of rfl rfl) (by refine ⟨by decide, by decide, rfl, rfl, rfl, ?_⟩; first | rfl | simp [V.toks, V.tokss, Enc.toks_enc]) ?_
      refine g_end ?_
      refine e_end ?_
      refine renew [(1, (.ref (.bx 1) 0 [] (.agg [(.int .i64 g_1.1), (Enc.enc (g_1.2 : List (Int × Int)))]))), (2, (.bool false)), (3, (.int .i64 t12_9)), (4, (.ref (.bx 4) 0 [] (.agg [(.int .i64 e_16.1), (.int .i64 e_16.2)]))), (10, (Enc.enc (g_1.2 : List (Int × Int)))), (11, (.int .i64 (g_1.2.length : Int))), (12, (.int .i64 t12_9))] ⟨(keep_mut (keep_clear (s := s) (pk := [4]) h1 rfl (map_bx rfl (map_agg (maps_cons rfl (maps_cons (Enc.map_enc _ (g_1.2 : List (Int × Int))) maps_nil))))) (mut_ref_ne rfl rfl (mut_agg (muts_cons rfl (muts_cons (Enc.mut_enc _ _ _ _ (g_1.2 : List (Int × Int))) rfl))))), (keep_mut (keep_clear (s := s) (pk := [4]) h2 rfl rfl) rfl), (keep_mut rfl rfl), (keep_mut rfl rfl), (keep_mut (keep_clear (s := s) (pk := [4]) h10 rfl (Enc.map_enc _ (g_1.2 : List (Int × Int)))) (Enc.mut_enc _ _ _ _ (g_1.2 : List (Int × Int)))), (keep_mut (keep_clear (s := s) (pk := [4]) h11 rfl rfl) rfl), (keep_mut (keep_clear (s := s) (pk := [4]) h12 rfl rfl) rfl)⟩ ?_
      rintro s ⟨h1, h2, h3, h4, h10, h11, h12⟩
      refine .nsq ?_
      refine .seq ?_
      refine run_reg ?_
      refine e_end ?_
      refine g_v1 (t := 4) (u := (.ref (.bx 4) 0 [] (.agg [(.int .i64 e_16.1), (.int .i64 e_16.2)]))) (.ref (.bx 4) 0 [0] (.int .i64 e_16.1)) h4 rfl rfl ?_
      refine g_v1 (t := 17) (u := (.ref (.bx 4) 0 [0] (.int .i64 e_16.1))) (.int .i64 e_16.1) rfl rfl rfl ?_
      refine g_v1 (t := 18) (u := (.int .i64 e_16.1)) (.bool (decide (e_16.1 < 0))) rfl rfl rfl ?_
      refine g_v1 (t := 19) (u := (.bool (decide (e_16.1 < 0)))) (.bool (decide (e_16.1 < 0))) rfl rfl rfl ?_
      refine split_on (c := decide (e_16.1 < 0)) h (fun hg4 h => ?_) (fun hg4 h => ?_)
      · refine g_no (Eq.trans (b := .bool (decide (e_16.1 < 0))) rfl (congrArg V.bool hg4)) ?_
        refine g_no (Eq.trans (b := .bool (decide (e_16.1 < 0))) rfl (congrArg V.bool hg4)) ?_
        refine g_no (Eq.trans (b := .bool (decide (e_16.1 < 0))) rfl (congrArg V.bool hg4)) ?_
        refine g_no (Eq.trans (b := .bool (decide (e_16.1 < 0))) rfl (congrArg V.bool hg4)) ?_
        refine g_no (Eq.trans (b := .bool (decide (e_16.1 < 0))) rfl (congrArg V.bool hg4)) ?_
        refine g_v2 (t1 := 20) (t2 := 25) (u1 := (.bool true)) (u2 := (.tup [])) (.bool true) (Eq.trans (b := .bool (decide (e_16.1 < 0))) rfl (congrArg V.bool hg4)) rfl rfl rfl ?_
        refine g_v1 (t := 26) (u := (.bool true)) (.bool true) rfl rfl rfl ?_
        refine g_no rfl ?_
        refine g_no rfl ?_
        refine g_no rfl ?_
        refine g_no rfl ?_
        refine g_no rfl ?_
        refine g_v2 (t1 := 27) (t2 := 32) (u1 := (.bool true)) (u2 := (.tup [])) (.bool true) rfl rfl rfl rfl ?_
        refine g_v1 (t := 33) (u := (.bool true)) (.bool true) rfl rfl rfl ?_
        refine g_no rfl ?_
        refine g_no rfl ?_
        refine g_no rfl ?_
        refine g_skip rfl ?_
        refine g_skip rfl ?_
        refine g_skip rfl ?_
        refine g_skip rfl ?_
        refine g_skip rfl ?_
        refine g_skip rfl ?_
        refine g_skip rfl ?_
        refine g_skip rfl ?_
        refine g_skip rfl ?_
        refine g_no rfl ?_
        refine g_v2 (t1 := 34) (t2 := 47) (u1 := (.bool true)) (u2 := (.tup [])) (.bool true) rfl rfl rfl rfl ?_
        refine g_end ?_
        refine e_end ?_
        refine renew [(1, (.ref (.bx 1) 0 [] (.agg [(.int .i64 g_1.1), (Enc.enc (g_1.2 : List (Int × Int)))]))), (2, (.bool false)), (10, (Enc.enc (g_1.2 : List (Int × Int)))), (11, (.int .i64 (g_1.2.length : Int))), (12, (.int .i64 t12_9)), (48, (.bool true))] ⟨h1, h2, h10, h11, h12, rfl⟩ ?_
        rintro s ⟨h1, h2, h10, h11, h12, h48⟩
        exact t_f50_j1 H g_1 t12_9 (i_IsGraph_l1 F g_1 k) ih true _ ⟨h1, h2, h10, h11, h12, h48⟩ h
      · refine g_yes (Eq.trans (b := .bool (decide (e_16.1 < 0))) rfl (congrArg V.bool hg4)) (g_v1 (t := 4) (u := (.ref (.bx 4) 0 [] (.agg [(.int .i64 e_16.1), (.int .i64 e_16.2)]))) (.ref (.bx 4) 0 [0] (.int .i64 e_16.1)) h4 rfl rfl ?_)
        refine g_yes (Eq.trans (b := .bool (decide (e_16.1 < 0))) rfl (congrArg V.bool hg4)) (g_v1 (t := 21) (u := (.ref (.bx 4) 0 [0] (.int .i64 e_16.1))) (.int .i64 e_16.1) rfl rfl rfl ?_)
        refine g_yes (Eq.trans (b := .bool (decide (e_16.1 < 0))) rfl (congrArg V.bool hg4)) (g_v1 (t := 4) (u := (.ref (.bx 4) 0 [] (.agg [(.int .i64 e_16.1), (.int .i64 e_16.2)]))) (.ref (.bx 4) 0 [1] (.int .i64 e_16.2)) h4 rfl rfl ?_)
        refine g_yes (Eq.trans (b := .bool (decide (e_16.1 < 0))) rfl (congrArg V.bool hg4)) (g_v1 (t := 23) (u := (.ref (.bx 4) 0 [1] (.int .i64 e_16.2))) (.int .i64 e_16.2) rfl rfl rfl ?_)
        refine g_yes (Eq.trans (b := .bool (decide (e_16.1 < 0))) rfl (congrArg V.bool hg4)) (g_v2 (t1 := 22) (t2 := 24) (u1 := (.int .i64 e_16.1)) (u2 := (.int .i64 e_16.2)) (.bool (decide (e_16.1 ≥ e_16.2))) rfl rfl rfl rfl ?_)
        refine g_v2 (t1 := 20) (t2 := 25) (u1 := (.bool false)) (u2 := (.bool (decide (e_16.1 ≥ e_16.2)))) (.bool (decide (e_16.1 ≥ e_16.2))) (Eq.trans (b := .bool (decide (e_16.1 < 0))) rfl (congrArg V.bool hg4)) rfl rfl rfl ?_
        refine g_v1 (t := 26) (u := (.bool (decide (e_16.1 ≥ e_16.2)))) (.bool (decide (e_16.1 ≥ e_16.2))) rfl rfl rfl ?_
        refine split_on (c := decide (e_16.1 ≥ e_16.2)) h (fun hg11 h => ?_) (fun hg11 h => ?_)
        · refine g_no (Eq.trans (b := .bool (decide (e_16.1 ≥ e_16.2))) rfl (congrArg V.bool hg11)) ?_
          refine g_no (Eq.trans (b := .bool (decide (e_16.1 ≥ e_16.2))) rfl (congrArg V.bool hg11)) ?_
          refine g_no (Eq.trans (b := .bool (decide (e_16.1 ≥ e_16.2))) rfl (congrArg V.bool hg11)) ?_
          refine g_no (Eq.trans (b := .bool (decide (e_16.1 ≥ e_16.2))) rfl (congrArg V.bool hg11)) ?_
          refine g_no (Eq.trans (b := .bool (decide (e_16.1 ≥ e_16.2))) rfl (congrArg V.bool hg11)) ?_
          refine g_v2 (t1 := 27) (t2 := 32) (u1 := (.bool true)) (u2 := (.tup [])) (.bool true) (Eq.trans (b := .bool (decide (e_16.1 ≥ e_16.2))) rfl (congrArg V.bool hg11)) rfl rfl rfl ?_
          refine g_v1 (t := 33) (u := (.bool true)) (.bool true) rfl rfl rfl ?_
          refine g_no rfl ?_
          refine g_no rfl ?_
          refine g_no rfl ?_
          refine g_skip rfl ?_
          refine g_skip rfl ?_
          refine g_skip rfl ?_
          refine g_skip rfl ?_
          refine g_skip rfl ?_
          refine g_skip rfl ?_
          refine g_skip rfl ?_
          refine g_skip rfl ?_
          refine g_skip rfl ?_
          refine g_no rfl ?_
          refine g_v2 (t1 := 34) (t2 := 47) (u1 := (.bool true)) (u2 := (.tup [])) (.bool true) rfl rfl rfl rfl ?_
          refine g_end ?_
          refine e_end ?_
          refine renew [(1, (.ref (.bx 1) 0 [] (.agg [(.int .i64 g_1.1), (Enc.enc (g_1.2 : List (Int × Int)))]))), (2, (.bool false)), (10, (Enc.enc (g_1.2 : List (Int × Int)))), (11, (.int .i64 (g_1.2.length : Int))), (12, (.int .i64 t12_9)), (48, (.bool true))] ⟨h1, h2, h10, h11, h12, rfl⟩ ?_
          rintro s ⟨h1, h2, h10, h11, h12, h48⟩
          exact t_f50_j1 H g_1 t12_9 (i_IsGraph_l1 F g_1 k) ih true _ ⟨h1, h2, h10, h11, h12, h48⟩ h
        · refine g_yes (Eq.trans (b := .bool (decide (e_16.1 ≥ e_16.2))) rfl (congrArg V.bool hg11)) (g_v1 (t := 4) (u := (.ref (.bx 4) 0 [] (.agg [(.int .i64 e_16.1), (.int .i64 e_16.2)]))) (.ref (.bx 4) 0 [1] (.int .i64 e_16.2)) h4 rfl rfl ?_)
          refine g_yes (Eq.trans (b := .bool (decide (e_16.1 ≥ e_16.2))) rfl (congrArg V.bool hg11)) (g_v1 (t := 28) (u := (.ref (.bx 4) 0 [1] (.int .i64 e_16.2))) (.int .i64 e_16.2) rfl rfl rfl ?_)
          refine g_yes (Eq.trans (b := .bool (decide (e_16.1 ≥ e_16.2))) rfl (congrArg V.bool hg11)) (g_v1 (t := 1) (u := (.ref (.bx 1) 0 [] (.agg [(.int .i64 g_1.1), (Enc.enc (g_1.2 : List (Int × Int)))]))) (.ref (.bx 1) 0 [0] (.int .i64 g_1.1)) h1 rfl rfl ?_)
          refine g_yes (Eq.trans (b := .bool (decide (e_16.1 ≥ e_16.2))) rfl (congrArg V.bool hg11)) (g_v1 (t := 30) (u := (.ref (.bx 1) 0 [0] (.int .i64 g_1.1))) (.int .i64 g_1.1) rfl rfl rfl ?_)
          refine g_yes (Eq.trans (b := .bool (decide (e_16.1 ≥ e_16.2))) rfl (congrArg V.bool hg11)) (g_v2 (t1 := 29) (t2 := 31) (u1 := (.int .i64 e_16.2)) (u2 := (.int .i64 g_1.1)) (.bool (decide (e_16.2 ≥ g_1.1))) rfl rfl rfl rfl ?_)
          refine g_v2 (t1 := 27) (t2 := 32) (u1 := (.bool false)) (u2 := (.bool (decide (e_16.2 ≥ g_1.1)))) (.bool (decide (e_16.2 ≥ g_1.1))) (Eq.trans (b := .bool (decide (e_16.1 ≥ e_16.2))) rfl (congrArg V.bool hg11)) rfl rfl rfl ?_
          refine g_v1 (t := 33) (u := (.bool (decide (e_16.2 ≥ g_1.1)))) (.bool (decide (e_16.2 ≥ g_1.1))) rfl rfl rfl ?_
          refine split_on (c := decide (e_16.2 ≥ g_1.1)) h (fun hg18 h => ?_) (fun hg18 h => ?_)
          · refine g_no (Eq.trans (b := .bool (decide (e_16.2 ≥ g_1.1))) rfl (congrArg V.bool hg18)) ?_
            refine g_no (Eq.trans (b := .bool (decide (e_16.2 ≥ g_1.1))) rfl (congrArg V.bool hg18)) ?_
            refine g_no (Eq.trans (b := .bool (decide (e_16.2 ≥ g_1.1))) rfl (congrArg V.bool hg18)) ?_
            refine g_skip rfl ?_
            refine g_skip rfl ?_
            refine g_skip rfl ?_
            refine g_skip rfl ?_
            refine g_skip rfl ?_
            refine g_skip rfl ?_
            refine g_skip rfl ?_
            refine g_skip rfl ?_
            refine g_skip rfl ?_
            refine g_no (Eq.trans (b := .bool (decide (e_16.2 ≥ g_1.1))) rfl (congrArg V.bool hg18)) ?_
            refine g_v2 (t1 := 34) (t2 := 47) (u1 := (.bool true)) (u2 := (.tup [])) (.bool true) (Eq.trans (b := .bool (decide (e_16.2 ≥ g_1.1))) rfl (congrArg V.bool hg18)) rfl rfl rfl ?_
            refine g_end ?_
            refine e_end ?_
            refine renew [(1, (.ref (.bx 1) 0 [] (.agg [(.int .i64 g_1.1), (Enc.enc (g_1.2 : List (Int × Int)))]))), (2, (.bool false)), (10, (Enc.enc (g_1.2 : List (Int × Int)))), (11, (.int .i64 (g_1.2.length : Int))), (12, (.int .i64 t12_9)), (48, (.bool true))] ⟨h1, h2, h10, h11, h12, rfl⟩ ?_
            rintro s ⟨h1, h2, h10, h11, h12, h48⟩
            exact t_f50_j1 H g_1 t12_9 (i_IsGraph_l1 F g_1 k) ih true _ ⟨h1, h2, h10, h11, h12, h48⟩ h
          · refine g_yes (Eq.trans (b := .bool (decide (e_16.2 ≥ g_1.1))) rfl (congrArg V.bool hg18)) (g_v1 (t := 3) (u := (.int .i64 t12_9)) (.int .i64 t12_9) h3 rfl rfl ?_)
            refine g_yes (Eq.trans (b := .bool (decide (e_16.2 ≥ g_1.1))) rfl (congrArg V.bool hg18)) (g_v1 (t := 35) (u := (.int .i64 t12_9)) (.bool (decide (t12_9 > 0))) rfl rfl rfl ?_)
            refine g_yes (Eq.trans (b := .bool (decide (e_16.2 ≥ g_1.1))) rfl (congrArg V.bool hg18)) (g_v1 (t := 36) (u := (.bool (decide (t12_9 > 0)))) (.bool (decide (t12_9 > 0))) rfl rfl rfl ?_)
            refine split_on (c := decide (t12_9 > 0)) h (fun hg21 h => ?_) (fun hg21 h => ?_)
            · refine g_yes (Eq.trans (b := .bool (decide (t12_9 > 0))) rfl (congrArg V.bool hg21)) (g_v1 (t := 1) (u := (.ref (.bx 1) 0 [] (.agg [(.int .i64 g_1.1), (Enc.enc (g_1.2 : List (Int × Int)))]))) (.ref (.bx 1) 0 [1] (Enc.enc (g_1.2 : List (Int × Int)))) h1 rfl rfl ?_)
              refine g_yes (Eq.trans (b := .bool (decide (t12_9 > 0))) rfl (congrArg V.bool hg21)) (g_v1 (t := 38) (u := (.ref (.bx 1) 0 [1] (Enc.enc (g_1.2 : List (Int × Int))))) (Enc.enc (g_1.2 : List (Int × Int))) rfl rfl rfl ?_)
              refine g_yes (Eq.trans (b := .bool (decide (t12_9 > 0))) rfl (congrArg V.bool hg21)) (g_v1 (t := 3) (u := (.int .i64 t12_9)) (.int .i64 t12_9) h3 rfl rfl ?_)
              refine g_yes (Eq.trans (b := .bool (decide (t12_9 > 0))) rfl (congrArg V.bool hg21)) (g_v1 (t := 40) (u := (.int .i64 t12_9)) (.int .i64 (w64 (t12_9 - 1))) rfl rfl rfl ?_)
              obtain ⟨e_20, E_e_20, h⟩ := bind_some h
              refine g_yes (Eq.trans (b := .bool (decide (t12_9 > 0))) rfl (congrArg V.bool hg21)) (g_v (.ref .sh 0 [] (.agg [(.int .i64 e_20.1), (.int .i64 e_20.2)])) (ev_idx (t := .sh) (lo := 0) (xs := g_1.2) rfl rfl E_e_20 rfl rfl) ?_)
              refine g_yes (Eq.trans (b := .bool (decide (t12_9 > 0))) rfl (congrArg V.bool hg21)) (g_v1 (t := 42) (u := (.ref .sh 0 [] (.agg [(.int .i64 e_20.1), (.int .i64 e_20.2)]))) (Enc.enc ([e_20.1, e_20.2] : List Int)) rfl rfl rfl ?_)
              refine g_yes (Eq.trans (b := .bool (decide (t12_9 > 0))) rfl (congrArg V.bool hg21)) (g_v1 (t := 4) (u := (.ref (.bx 4) 0 [] (.agg [(.int .i64 e_16.1), (.int .i64 e_16.2)]))) (encO (.bx 4) (.of ([e_16.1, e_16.2] : List Int))) h4 rfl rfl ?_)
              obtain ⟨r_21, E_r_21, h⟩ := bind_some h
              refine g_yes (Eq.trans (b := .bool (decide (t12_9 > 0))) rfl (congrArg V.bool hg21)) (g_call (m := 0) (al := false) (r := (Enc.enc (r_21 : Int))) [Enc.enc ([e_20.1, e_20.2] : (List Int)), Enc.enc ([e_16.1, e_16.2] : (List Int))] (ta_cons (v := (Enc.enc ([e_20.1, e_20.2] : List Int))) rfl rfl (Enc.erase_enc ([e_20.1, e_20.2] : (List Int))) (ta_cons (v := (encO (.bx 4) (.of ([e_16.1, e_16.2] : List Int)))) rfl rfl (erase_encO (o := .of [e_16.1, e_16.2])) ta_nil)) (H.c100 _ _ _ E_r_21) H.g100 rfl rfl rfl rfl ?_)
              refine g_yes (Eq.trans (b := .bool (decide (t12_9 > 0))) rfl (congrArg V.bool hg21)) (g_v1 (t := 45) (u := (.int .i64 r_21)) (.bool (decide (r_21 ≥ 0))) rfl rfl rfl ?_)
              refine g_yes (Eq.trans (b := .bool (decide (e_16.2 ≥ g_1.1))) rfl (congrArg V.bool hg18)) (g_v2 (t1 := 37) (t2 := 46) (u1 := (.bool true)) (u2 := (.bool (decide (r_21 ≥ 0)))) (.bool (decide (r_21 ≥ 0))) (Eq.trans (b := .bool (decide (t12_9 > 0))) rfl (congrArg V.bool hg21)) rfl rfl rfl ?_)
              refine g_v2 (t1 := 34) (t2 := 47) (u1 := (.bool false)) (u2 := (.bool (decide (r_21 ≥ 0)))) (.bool (decide (r_21 ≥ 0))) (Eq.trans (b := .bool (decide (e_16.2 ≥ g_1.1))) rfl (congrArg V.bool hg18)) rfl rfl rfl ?_
              refine g_end ?_
              refine e_end ?_
              refine renew [(1, (.ref (.bx 1) 0 [] (.agg [(.int .i64 g_1.1), (Enc.enc (g_1.2 : List (Int × Int)))]))), (2, (.bool false)), (10, (Enc.enc (g_1.2 : List (Int × Int)))), (11, (.int .i64 (g_1.2.length : Int))), (12, (.int .i64 t12_9)), (48, (.bool (decide (r_21 ≥ 0))))] ⟨h1, h2, h10, h11, h12, rfl⟩ ?_
              rintro s ⟨h1, h2, h10, h11, h12, h48⟩
              exact t_f50_j1 H g_1 t12_9 (i_IsGraph_l1 F g_1 k) ih (decide (r_21 ≥ 0)) _ ⟨h1, h2, h10, h11, h12, h48⟩ h
            · refine g_no (Eq.trans (b := .bool (decide (t12_9 > 0))) rfl (congrArg V.bool hg21)) ?_
              refine g_no (Eq.trans (b := .bool (decide (t12_9 > 0))) rfl (congrArg V.bool hg21)) ?_
              refine g_no (Eq.trans (b := .bool (decide (t12_9 > 0))) rfl (congrArg V.bool hg21)) ?_
              refine g_no (Eq.trans (b := .bool (decide (t12_9 > 0))) rfl (congrArg V.bool hg21)) ?_
              refine g_no (Eq.trans (b := .bool (decide (t12_9 > 0))) rfl (congrArg V.bool hg21)) ?_
              refine g_no (Eq.trans (b := .bool (decide (t12_9 > 0))) rfl (congrArg V.bool hg21)) ?_
              refine g_no (Eq.trans (b := .bool (decide (t12_9 > 0))) rfl (congrArg V.bool hg21)) ?_
              refine g_no (Eq.trans (b := .bool (decide (t12_9 > 0))) rfl (congrArg V.bool hg21)) ?_
              refine g_no (Eq.trans (b := .bool (decide (t12_9 > 0))) rfl (congrArg V.bool hg21)) ?_
              refine g_yes (Eq.trans (b := .bool (decide (e_16.2 ≥ g_1.1))) rfl (congrArg V.bool hg18)) (g_v2 (t1 := 37) (t2 := 46) (u1 := (.bool false)) (u2 := (.tup [])) (.bool false) (Eq.trans (b := .bool (decide (t12_9 > 0))) rfl (congrArg V.bool hg21)) rfl rfl rfl ?_)
              refine g_v2 (t1 := 34) (t2 := 47) (u1 := (.bool false)) (u2 := (.bool false)) (.bool false) (Eq.trans (b := .bool (decide (e_16.2 ≥ g_1.1))) rfl (congrArg V.bool hg18)) rfl rfl rfl ?_
              refine g_end ?_
              refine e_end ?_
              refine renew [(1, (.ref (.bx 1) 0 [] (.agg [(.int .i64 g_1.1), (Enc.enc (g_1.2 : List (Int × Int)))]))), (2, (.bool false)), (10, (Enc.enc (g_1.2 : List (Int × Int)))), (11, (.int .i64 (g_1.2.length : Int))), (12, (.int .i64 t12_9)), (48, (.bool false))] ⟨h1, h2, h10, h11, h12, rfl⟩ ?_
              rintro s ⟨h1, h2, h10, h11, h12, h48⟩
              exact t_f50_j1 H g_1 t12_9 (i_IsGraph_l1 F g_1 k) ih false _ ⟨h1, h2, h10, h11, h12, h48⟩ h
    · refine .exit ?_
      refine .esq ?_
      refine .elp ?_
      refine .ebk ?_
      refine .nsq ?_
      refine .seq ?_
      refine run_reg ?_
      refine e_end ?_
      refine g_v0 (.bool true) rfl rfl ?_
      refine g_end ?_
      refine e_end ?_
      refine renew [(2, (.bool true))] rfl ?_
      rintro s h2
      refine .nsq ?_
      refine .ret ?_
      have hr := Option.some.inj h
      subst hr
      exact rrA (res_tmp h2) rfl
def i_IsGraph (F : Nat) (g_1 : (Int × (List (Int × Int)))) : Option Bool :=
  (i_within F g_1.1 0 8).bind fun r_2 =>
  bif (!r_2) then
    some false
  else
    i_IsGraph_l1 F g_1 F 0
theorem t50 (H : H50 D σ F) (g_1 : (Int × (List (Int × Int)))) (s : Nat → V) (hs : Facts [(0, (.agg [(.int .i64 g_1.1), (Enc.enc (g_1.2 : List (Int × Int)))]))] s) (h : i_IsGraph F g_1 = some r) : Run D σ (R50 r) (.run A50 []) s := by
  unfold i_IsGraph at h
  have h0 := hs
  refine .seq ?_
  refine run_reg ?_
  refine e_clr ?_
  refine e_end ?_
  refine g_box (.agg [(.int .i64 g_1.1), (Enc.enc (g_1.2 : List (Int × Int)))]) (rd_of (keep_clear (s := s) (pk := [1]) h0 rfl (map_agg (maps_cons rfl (maps_cons (Enc.map_enc _ (g_1.2 : List (Int × Int))) maps_nil)))) rfl) (gone_clear (s := s) (pk := [1]) (t := 1) rfl) rfl ?_
  refine g_v0 (.bool false) rfl rfl ?_
  refine g_end ?_
  refine e_end ?_
  refine renew [(1, (.ref (.bx 1) 0 [] (.agg [(.int .i64 g_1.1), (Enc.enc (g_1.2 : List (Int × Int)))]))), (2, (.bool false))] ⟨rfl, rfl⟩ ?_
  rintro s ⟨h1, h2⟩
  refine .nsq ?_
  refine .seq ?_
  refine .seq ?_
  refine run_reg ?_
  refine e_end ?_
  refine g_v1 (t := 1) (u := (.ref (.bx 1) 0 [] (.agg [(.int .i64 g_1.1), (Enc.enc (g_1.2 : List (Int × Int)))]))) (.ref (.bx 1) 0 [0] (.int .i64 g_1.1)) h1 rfl rfl ?_
  refine g_v1 (t := 5) (u := (.ref (.bx 1) 0 [0] (.int .i64 g_1.1))) (.int .i64 g_1.1) rfl rfl rfl ?_
  obtain ⟨r_2, E_r_2, h⟩ := bind_some h
  refine g_call (m := 0) (al := false) (r := (Enc.enc (r_2 : Bool))) [Enc.enc (g_1.1 : Int), Enc.enc (0 : Int), Enc.enc (8 : Int)] (ta_cons (v := (.int .i64 g_1.1)) rfl rfl rfl (ta_cons (v := (.int .i64 0)) rfl rfl rfl (ta_cons (v := (.int .i64 8)) rfl rfl rfl ta_nil))) (H.c66 _ _ _ _ E_r_2) H.g66 rfl rfl rfl rfl ?_
  refine g_v1 (t := 7) (u := (.bool r_2)) (.bool (!r_2)) rfl rfl rfl ?_
  refine g_end ?_
  refine e_end ?_
  refine renew [(1, (.ref (.bx 1) 0 [] (.agg [(.int .i64 g_1.1), (Enc.enc (g_1.2 : List (Int × Int)))]))), (2, (.bool false)), (8, (.bool (!r_2)))] ⟨h1, h2, rfl⟩ ?_
  rintro s ⟨h1, h2, h8⟩
  refine .nsq ?_
  refine run_cond (t := (!r_2)) h8 h (fun h => ?_) (fun h => ?_)
  · refine .seq ?_
    refine run_reg ?_
    refine e_end ?_
    refine g_v0 (.bool false) rfl rfl ?_
    refine g_end ?_
    refine e_end ?_
    refine renew [(1, (.ref (.bx 1) 0 [] (.agg [(.int .i64 g_1.1), (Enc.enc (g_1.2 : List (Int × Int)))]))), (2, (.bool false))] ⟨h1, rfl⟩ ?_
    rintro s ⟨h1, h2⟩
    refine .nsq ?_
    refine .ret ?_
    have hr := Option.some.inj h
    subst hr
    exact rrA (res_tmp h2) rfl
  · refine .skip ?_
    refine .nsq ?_
    refine .seq ?_
    refine .seq ?_
    refine run_reg ?_
    refine e_end ?_
    refine g_v1 (t := 1) (u := (.ref (.bx 1) 0 [] (.agg [(.int .i64 g_1.1), (Enc.enc (g_1.2 : List (Int × Int)))]))) (.ref (.bx 1) 0 [1] (Enc.enc (g_1.2 : List (Int × Int)))) h1 rfl rfl ?_
    refine g_v1 (t := 9) (u := (.ref (.bx 1) 0 [1] (Enc.enc (g_1.2 : List (Int × Int))))) (Enc.enc (g_1.2 : List (Int × Int))) rfl rfl rfl ?_
    refine g_v (.int .i64 (g_1.2.length : Int)) (ev_len (xs := g_1.2) rfl) ?_
    refine g_v0 (.int .i64 0) rfl rfl ?_
    refine g_end ?_
    refine e_end ?_
    refine renew [(1, (.ref (.bx 1) 0 [] (.agg [(.int .i64 g_1.1), (Enc.enc (g_1.2 : List (Int × Int)))]))), (2, (.bool false)), (10, (Enc.enc (g_1.2 : List (Int × Int)))), (11, (.int .i64 (g_1.2.length : Int))), (12, (.int .i64 0))] ⟨h1, h2, rfl, rfl, rfl⟩ ?_
    rintro s ⟨h1, h2, h10, h11, h12⟩
    refine .nsq ?_
    refine .block ?_
    refine .loop ?_
    exact t_f50_l1 H g_1 F 0 _ ⟨h1, h2, h10, h11, h12⟩ h
end
def e50 (F : Nat) : Ent := ⟨50, da (fun (x : ((Int × (List (Int × Int))) × Unit)) => i_IsGraph F x.1) (fun (r : Bool) => (Enc.enc (r : Bool))), 0, false, selF []⟩
theorem p50 {F : Nat} {x0 : (Int × (List (Int × Int)))} {r : Bool} (h : i_IsGraph F x0 = some r) : (e50 F).den [Enc.enc x0] = some (Enc.enc (r : Bool)) := da_put (f := fun (x : ((Int × (List (Int × Int))) × Unit)) => i_IsGraph F x.1) (t := fun (r : Bool) => (Enc.enc (r : Bool))) (x0, ()) h
theorem o50 {D : Den} {σ : Sig} {F : Nat} (hF : Fits2 Try.prog D σ) (H : H50 D σ F) : (e50 F).Ok Try.prog := by
  refine ⟨fun args r h => ?_, ⟨Try.f50, Try.func50, rfl, rfl⟩⟩
  obtain ⟨⟨x0, _⟩, y, rfl, hy, rfl⟩ := da_open h
  exact contract_run hF (by kernel_rfl) Try.func50 rfl c50 (show 1 ≤ Try.f50.ntmps by decide) (t50 H x0 _ rfl hy)
/- loop.example/g01109/impl.netOf -/
def A55_5 : AC := (AC.reg [] [(I.mk (some 28) none false (X.v (A.fld (O.t 3) 0 0))), (I.mk (some 29) none false (X.v (A.load Sh.p (O.t 28)))), (I.mk (some 30) none false (X.v (A.idxA (O.t 5) (O.k (V.int IntKind.i64 (Int.ofNat 1))) 2 1))), (I.mk (some 31) none false (X.v (A.load Sh.s (O.t 30)))), (I.mk (some 32) none false (X.v (A.idx (O.t 29) (O.t 31) 1))), (I.mk (some 33) none false (X.v (A.load Sh.s (O.t 32)))), (I.mk (some 34) none false (X.v (A.idxA (O.t 5) (O.k (V.int IntKind.i64 (Int.ofNat 0))) 2 1))), (I.mk (some 35) none false (X.v (A.load Sh.s (O.t 34)))), (I.mk (some 36) none false (X.v (A.bin BinOp.shl (O.k (V.int IntKind.i64 (Int.ofNat 1))) (O.t 35)))), (I.mk (some 37) none false (X.v (A.bin BinOp.or (O.t 33) (O.t 36)))), (I.mk (some 38) none false (X.v (A.idx (O.t 29) (O.t 31) 1))), (I.mk none none false (X.store Sh.s (O.t 38) (O.t 37)))] [])
def A55_4 : AC := (AC.seq (AC.reg [] [(I.mk (some 17) none false (X.v (A.fld (O.t 3) 0 0))), (I.mk (some 18) none false (X.v (A.load Sh.p (O.t 17)))), (I.mk (some 19) none false (X.v (A.idxA (O.t 5) (O.k (V.int IntKind.i64 (Int.ofNat 0))) 2 1))), (I.mk (some 20) none false (X.v (A.load Sh.s (O.t 19)))), (I.mk (some 21) none false (X.v (A.idx (O.t 18) (O.t 20) 1))), (I.mk (some 22) none false (X.v (A.load Sh.s (O.t 21)))), (I.mk (some 23) none false (X.v (A.idxA (O.t 5) (O.k (V.int IntKind.i64 (Int.ofNat 1))) 2 1))), (I.mk (some 24) none false (X.v (A.load Sh.s (O.t 23)))), (I.mk (some 25) none false (X.v (A.bin BinOp.shl (O.k (V.int IntKind.i64 (Int.ofNat 1))) (O.t 24)))), (I.mk (some 26) none false (X.v (A.bin BinOp.or (O.t 22) (O.t 25)))), (I.mk (some 27) none false (X.v (A.idx (O.t 18) (O.t 20) 1))), (I.mk none none false (X.store Sh.s (O.t 27) (O.t 26)))] []) A55_5)
def A55_6 : AC := (AC.reg [] [(I.mk (some 39) none false (X.v (A.bin BinOp.add (O.t 13) (O.k (V.int IntKind.i64 (Int.ofNat 1)))))), (I.mk (some 13) none false (X.v (A.mov (O.t 39))))] [])
def A55_3 : AC := (AC.seq (AC.block 1 (AC.seq (AC.reg [.clr [5]] [(I.mk (some 15) none false (X.v (A.idx (O.t 11) (O.t 13) 2))), (I.mk (some 16) none false (X.v (A.load (Sh.ag [Sh.s, Sh.s]) (O.t 15)))), (I.mk (some 5) none false (X.alloc (V.agg [(V.int IntKind.i64 (Int.ofNat 0)), (V.int IntKind.i64 (Int.ofNat 0))]))), (I.mk none none false (X.store (Sh.ag [Sh.s, Sh.s]) (O.t 5) (O.t 16)))] []) A55_4)) A55_6)
def A55_2 : AC := (AC.seq (AC.cond (O.t 14) AC.skip (AC.exit 0)) A55_3)
def A55_1 : AC := (AC.seq (AC.reg [] [(I.mk (some 14) none false (X.v (A.bin BinOp.lss (O.t 13) (O.t 12))))] []) A55_2)
def A55_7 : AC := (AC.seq (AC.reg [] [(I.mk (some 40) none false (X.v (A.load (Sh.ag [Sh.p]) (O.t 3)))), (I.mk none none false (X.store (Sh.ag [Sh.p]) (O.t 2) (O.t 40)))] []) AC.ret)
def A55_10 : AC := (AC.block 0 (AC.loop A55_1))
def A55_9 : AC := (AC.seq (AC.seq (AC.reg [] [(I.mk (some 10) none false (X.v (A.fld (O.t 1) 1 1))), (I.mk (some 11) none false (X.v (A.load Sh.p (O.t 10)))), (I.mk (some 12) none false (X.v (A.len (O.t 11)))), (I.mk (some 13) none false (X.v (A.mov (O.k (V.int IntKind.i64 (Int.ofNat 0))))))] []) A55_10) A55_7)
def A55_8 : AC := (AC.seq (AC.reg [.clr [8, 3]] [(I.mk (some 6) none false (X.v (A.fld (O.t 1) 0 0))), (I.mk (some 7) none false (X.v (A.load Sh.s (O.t 6)))), (I.mk (some 8) none false (X.mk (O.t 7) (V.int IntKind.i64 (Int.ofNat 0)))), (I.mk (some 9) none false (X.v (A.bld (V.agg [(V.sl Tok.nl Sh.s 0 [])]) [(0, 0, (O.t 8))]))), (I.mk (some 3) none false (X.alloc (V.agg [(V.sl Tok.nl Sh.s 0 [])]))), (I.mk none none false (X.store (Sh.ag [Sh.p]) (O.t 3) (O.t 9)))] []) A55_9)
def A55 : AC := (AC.seq (AC.reg [.clr [1, 2]] [(I.mk (some 1) none false (X.box (O.t 0))), (I.mk (some 2) none false (X.alloc (V.agg [(V.sl Tok.nl Sh.s 0 [])])))] []) A55_8)
def an55 : List An := [{ id := 0, pre := [.clr [1, 2]], ep := [], lin := [], sp := [] }, { id := 1, pre := [.clr [8, 3]], ep := [], lin := [], sp := [] }, { id := 4, pre := [.clr [5]], ep := [], lin := [], sp := [] }]
theorem c55 : cC Try.prog Try.f55.ntmps an55 (Try.f55.body.getD .skip) = some A55 := by kernel_rfl
structure H55 (D : Den) (σ : Sig) (F : Nat) : Prop where
  mk ::
abbrev R55 (r : (S1 (List Int))) : (Nat → V) → Prop := RR Try.prog [.cell 2 56] 0 false (Enc.enc (r : (S1 (List Int))))
section
variable {D : Den} {σ : Sig} {F : Nat} {r : (S1 (List Int))}
def i_netOf_l1 (F : Nat) (g_1 : (Int × (List (Int × Int))))  : Nat → (List Int) → Int → Option (S1 (List Int))
  | 0, _, _ => none
  | k + 1, w_10, t13_11 =>
    bif decide (t13_11 < (g_1.2.length : Int)) then
      (idx g_1.2 t13_11).bind fun e_19 =>
      (idx w_10 e_19.1).bind fun e_20 =>
      (shlI .i64 1 e_19.2).bind fun q_21 =>
      (idx w_10 e_19.1).bind fun e_22 =>
      (idx (w_10.set e_19.1.toNat (ior .i64 e_20 q_21)) e_19.2).bind fun e_23 =>
      (shlI .i64 1 e_19.1).bind fun q_24 =>
      (idx (w_10.set e_19.1.toNat (ior .i64 e_20 q_21)) e_19.2).bind fun e_25 =>
      (i_netOf_l1 F g_1 k) ((w_10.set e_19.1.toNat (ior .i64 e_20 q_21)).set e_19.2.toNat (ior .i64 e_23 q_24)) (w64 (t13_11 + 1))
    else
      some (S1.mk w_10)
theorem t_f55_l1 (H : H55 D σ F) (g_1 : (Int × (List (Int × Int))))  : ∀ (k : Nat) (w_10 : (List Int)) (t13_11 : Int) (s : Nat → V), Facts [(2, (.ref (.bx 2) 0 [] (.agg [(.sl .nl (Enc.shp Int) 0 [])]))), (3, (.ref (.bx 3) 0 [] (.agg [(encO (.at 8 []) (.of (w_10 : List Int)))]))), (11, (Enc.enc (g_1.2 : List (Int × Int)))), (12, (.int .i64 (g_1.2.length : Int))), (13, (.int .i64 t13_11))] s → i_netOf_l1 F g_1 k w_10 t13_11 = some r → Run D σ (R55 r) (.run A55_1 [.lp A55_1, .bk 0, .sq A55_7]) s := by
  intro k
  induction k with
  | zero => intro w_10 t13_11 s _ h; exact nomatch (h : (none : Option _) = some r)
  | succ k ih =>
    intro w_10 t13_11 s hs h
    rw [i_netOf_l1] at h
    obtain ⟨h2, h3, h11, h12, h13⟩ := hs
    refine .seq ?_
    refine run_reg ?_
    refine e_end ?_
    refine g_v2 (t1 := 13) (t2 := 12) (u1 := (.int .i64 t13_11)) (u2 := (.int .i64 (g_1.2.length : Int))) (.bool (decide (t13_11 < (g_1.2.length : Int)))) h13 h12 rfl rfl ?_
    refine g_end ?_
    refine e_end ?_
    refine renew [(2, (.ref (.bx 2) 0 [] (.agg [(.sl .nl (Enc.shp Int) 0 [])]))), (3, (.ref (.bx 3) 0 [] (.agg [(encO (.at 8 []) (.of (w_10 : List Int)))]))), (11, (Enc.enc (g_1.2 : List (Int × Int)))), (12, (.int .i64 (g_1.2.length : Int))), (13, (.int .i64 t13_11)), (14, (.bool (decide (t13_11 < (g_1.2.length : Int)))))] ⟨h2, h3, h11, h12, h13, rfl⟩ ?_
    rintro s ⟨h2, h3, h11, h12, h13, h14⟩
    refine .nsq ?_
    refine .seq ?_
    refine run_cond (t := decide (t13_11 < (g_1.2.length : Int))) h14 h (fun h => ?_) (fun h => ?_)
    · refine .skip ?_
      refine .nsq ?_
      refine .seq ?_
      refine .block ?_
      refine .seq ?_
      refine run_reg ?_
      refine e_clr ?_
      refine e_end ?_
      obtain ⟨e_19, E_e_19, h⟩ := bind_some h
      refine g_v (.ref .sh 0 [] (.agg [(.int .i64 e_19.1), (.int .i64 e_19.2)])) (ev_idx (t := .sh) (lo := 0) (xs := g_1.2) (keep_clear (s := s) (pk := [5]) h11 rfl (Enc.map_enc _ (g_1.2 : List (Int × Int)))) (keep_clear (s := s) (pk := [5]) h13 rfl rfl) E_e_19 rfl rfl) ?_
      refine g_v1 (t := 15) (u := (.ref .sh 0 [] (.agg [(.int .i64 e_19.1), (.int .i64 e_19.2)]))) (.agg [(.int .i64 e_19.1), (.int .i64 e_19.2)]) rfl rfl rfl ?_
      refine g_alloc (gone_clear (s := s) (pk := [5]) (t := 5) rfl) ?_
      refine g_store (.agg [(.int .i64 e_19.1), (.int .i64 e_19.2)]) (rd_of rfl rfl) (rd_of rfl rfl) (by refine ⟨by decide, by decide, rfl, rfl, rfl, ?_⟩; first | rfl | simp [V.toks, V.tokss, Enc.toks_enc]) ?_
      refine g_end ?_
      refine e_end ?_
      refine renew [(2, (.ref (.bx 2) 0 [] (.agg [(.sl .nl (Enc.shp Int) 0 [])]))), (3, (.ref (.bx 3) 0 [] (.agg [(encO (.at 8 []) (.of (w_10 : List Int)))]))), (5, (.ref (.bx 5) 0 [] (.agg [(.int .i64 e_19.1), (.int .i64 e_19.2)]))), (11, (Enc.enc (g_1.2 : List (Int × Int)))), (12, (.int .i64 (g_1.2.length : Int))), (13, (.int .i64 t13_11))] ⟨(keep_mut (keep_clear (s := s) (pk := [5]) h2 rfl (map_bx rfl (map_agg (maps_cons rfl maps_nil)))) (mut_ref_ne rfl rfl (mut_agg (muts_cons rfl rfl)))), (keep_mut (keep_clear (s := s) (pk := [5]) h3 rfl (map_bx rfl (map_agg (maps_cons (map_encO (r := 8) (p := []) rfl rfl) maps_nil)))) (mut_ref_ne rfl rfl (mut_agg (muts_cons (mut_own_ne rfl rfl) rfl)))), (keep_mut rfl rfl), (keep_mut (keep_clear (s := s) (pk := [5]) h11 rfl (Enc.map_enc _ (g_1.2 : List (Int × Int)))) (Enc.mut_enc _ _ _ _ (g_1.2 : List (Int × Int)))), (keep_mut (keep_clear (s := s) (pk := [5]) h12 rfl rfl) rfl), (keep_mut (keep_clear (s := s) (pk := [5]) h13 rfl rfl) rfl)⟩ ?_
      rintro s ⟨h2, h3, h5, h11, h12, h13⟩
      refine .nsq ?_
      refine .seq ?_
      refine run_reg ?_
      refine e_end ?_
      refine g_v1 (t := 3) (u := (.ref (.bx 3) 0 [] (.agg [(encO (.at 8 []) (.of (w_10 : List Int)))]))) (.ref (.bx 3) 0 [0] (encO (.at 8 []) (.of (w_10 : List Int)))) h3 rfl rfl ?_
      refine g_v1 (t := 17) (u := (.ref (.bx 3) 0 [0] (encO (.at 8 []) (.of (w_10 : List Int))))) (encO (.at 8 []) (.of (w_10 : List Int))) rfl rfl rfl ?_
      refine g_v1 (t := 5) (u := (.ref (.bx 5) 0 [] (.agg [(.int .i64 e_19.1), (.int .i64 e_19.2)]))) (.ref (.bx 5) 0 [0] (.int .i64 e_19.1)) h5 rfl rfl ?_
      refine g_v1 (t := 19) (u := (.ref (.bx 5) 0 [0] (.int .i64 e_19.1))) (.int .i64 e_19.1) rfl rfl rfl ?_
      obtain ⟨e_20, E_e_20, h⟩ := bind_some h
      refine g_v (.ref (.at 8 []) e_19.1.toNat [] (.int .i64 e_20)) (ev_idxO (o := (.of w_10)) rfl rfl E_e_20 rfl) ?_
      refine g_v1 (t := 21) (u := (.ref (.at 8 []) e_19.1.toNat [] (.int .i64 e_20))) (.int .i64 e_20) rfl rfl rfl ?_
      refine g_v1 (t := 5) (u := (.ref (.bx 5) 0 [] (.agg [(.int .i64 e_19.1), (.int .i64 e_19.2)]))) (.ref (.bx 5) 0 [1] (.int .i64 e_19.2)) h5 rfl rfl ?_
      refine g_v1 (t := 23) (u := (.ref (.bx 5) 0 [1] (.int .i64 e_19.2))) (.int .i64 e_19.2) rfl rfl rfl ?_
      obtain ⟨q_21, E_q_21, h⟩ := bind_some h
      refine g_v (.int .i64 q_21) (ev_shl rfl rfl E_q_21) ?_
      refine g_v2 (t1 := 22) (t2 := 25) (u1 := (.int .i64 e_20)) (u2 := (.int .i64 q_21)) (.int .i64 (ior .i64 e_20 q_21)) rfl rfl rfl rfl ?_
      obtain ⟨e_22, E_e_22, h⟩ := bind_some h
      refine g_v (.ref (.at 8 []) e_19.1.toNat [] (.int .i64 e_22)) (ev_idxO (o := (.of w_10)) rfl rfl E_e_22 rfl) ?_
      refine g_store (.int .i64 (ior .i64 e_20 q_21)) (rd_of rfl rfl) (rd_of rfl rfl) (by refine ⟨by decide, by decide, rfl, rfl, rfl, ?_⟩; first | rfl | simp [V.toks, V.tokss, Enc.toks_enc]) ?_
      refine g_end ?_
      refine e_end ?_
      refine renew [(2, (.ref (.bx 2) 0 [] (.agg [(.sl .nl (Enc.shp Int) 0 [])]))), (3, (.ref (.bx 3) 0 [] (.agg [(encO (.at 8 []) (.of (w_10.set e_19.1.toNat (ior .i64 e_20 q_21) : List Int)))]))), (5, (.ref (.bx 5) 0 [] (.agg [(.int .i64 e_19.1), (.int .i64 e_19.2)]))), (11, (Enc.enc (g_1.2 : List (Int × Int)))), (12, (.int .i64 (g_1.2.length : Int))), (13, (.int .i64 t13_11))] ⟨(keep_mut h2 (mut_ref_ne rfl rfl (mut_agg (muts_cons rfl rfl)))), (keep_mut h3 (mut_ref_ne rfl rfl (mut_agg (muts_cons mut_own rfl)))), (keep_mut h5 rfl), (keep_mut h11 (Enc.mut_enc _ _ _ _ (g_1.2 : List (Int × Int)))), (keep_mut h12 rfl), (keep_mut h13 rfl)⟩ ?_
      rintro s ⟨h2, h3, h5, h11, h12, h13⟩
      refine .nsq ?_
      refine run_reg ?_
      refine e_end ?_
      refine g_v1 (t := 3) (u := (.ref (.bx 3) 0 [] (.agg [(encO (.at 8 []) (.of (w_10.set e_19.1.toNat (ior .i64 e_20 q_21) : List Int)))]))) (.ref (.bx 3) 0 [0] (encO (.at 8 []) (.of (w_10.set e_19.1.toNat (ior .i64 e_20 q_21) : List Int)))) h3 rfl rfl ?_
      refine g_v1 (t := 28) (u := (.ref (.bx 3) 0 [0] (encO (.at 8 []) (.of (w_10.set e_19.1.toNat (ior .i64 e_20 q_21) : List Int))))) (encO (.at 8 []) (.of (w_10.set e_19.1.toNat (ior .i64 e_20 q_21) : List Int))) rfl rfl rfl ?_
      refine g_v1 (t := 5) (u := (.ref (.bx 5) 0 [] (.agg [(.int .i64 e_19.1), (.int .i64 e_19.2)]))) (.ref (.bx 5) 0 [1] (.int .i64 e_19.2)) h5 rfl rfl ?_
      refine g_v1 (t := 30) (u := (.ref (.bx 5) 0 [1] (.int .i64 e_19.2))) (.int .i64 e_19.2) rfl rfl rfl ?_
      obtain ⟨e_23, E_e_23, h⟩ := bind_some h
      refine g_v (.ref (.at 8 []) e_19.2.toNat [] (.int .i64 e_23)) (ev_idxO (o := (.of (w_10.set e_19.1.toNat (ior .i64 e_20 q_21)))) rfl rfl E_e_23 rfl) ?_
      refine g_v1 (t := 32) (u := (.ref (.at 8 []) e_19.2.toNat [] (.int .i64 e_23))) (.int .i64 e_23) rfl rfl rfl ?_
      refine g_v1 (t := 5) (u := (.ref (.bx 5) 0 [] (.agg [(.int .i64 e_19.1), (.int .i64 e_19.2)]))) (.ref (.bx 5) 0 [0] (.int .i64 e_19.1)) h5 rfl rfl ?_
      refine g_v1 (t := 34) (u := (.ref (.bx 5) 0 [0] (.int .i64 e_19.1))) (.int .i64 e_19.1) rfl rfl rfl ?_
      obtain ⟨q_24, E_q_24, h⟩ := bind_some h
      refine g_v (.int .i64 q_24) (ev_shl rfl rfl E_q_24) ?_
      refine g_v2 (t1 := 33) (t2 := 36) (u1 := (.int .i64 e_23)) (u2 := (.int .i64 q_24)) (.int .i64 (ior .i64 e_23 q_24)) rfl rfl rfl rfl ?_
      obtain ⟨e_25, E_e_25, h⟩ := bind_some h
      refine g_v (.ref (.at 8 []) e_19.2.toNat [] (.int .i64 e_25)) (ev_idxO (o := (.of (w_10.set e_19.1.toNat (ior .i64 e_20 q_21)))) rfl rfl E_e_25 rfl) ?_
      refine g_store (.int .i64 (ior .i64 e_23 q_24)) (rd_of rfl rfl) (rd_of rfl rfl) (by refine ⟨by decide, by decide, rfl, rfl, rfl, ?_⟩; first | rfl | simp [V.toks, V.tokss, Enc.toks_enc]) ?_
      refine g_end ?_
      refine e_end ?_
      refine renew [(2, (.ref (.bx 2) 0 [] (.agg [(.sl .nl (Enc.shp Int) 0 [])]))), (3, (.ref (.bx 3) 0 [] (.agg [(encO (.at 8 []) (.of ((w_10.set e_19.1.toNat (ior .i64 e_20 q_21)).set e_19.2.toNat (ior .i64 e_23 q_24) : List Int)))]))), (11, (Enc.enc (g_1.2 : List (Int × Int)))), (12, (.int .i64 (g_1.2.length : Int))), (13, (.int .i64 t13_11))] ⟨(keep_mut h2 (mut_ref_ne rfl rfl (mut_agg (muts_cons rfl rfl)))), (keep_mut h3 (mut_ref_ne rfl rfl (mut_agg (muts_cons mut_own rfl)))), (keep_mut h11 (Enc.mut_enc _ _ _ _ (g_1.2 : List (Int × Int)))), (keep_mut h12 rfl), (keep_mut h13 rfl)⟩ ?_
      rintro s ⟨h2, h3, h11, h12, h13⟩
      refine .nbk ?_
      refine .nsq ?_
      refine run_reg ?_
      refine e_end ?_
      refine g_v1 (t := 13) (u := (.int .i64 t13_11)) (.int .i64 (w64 (t13_11 + 1))) h13 rfl rfl ?_
      refine g_v1 (t := 39) (u := (.int .i64 (w64 (t13_11 + 1)))) (.int .i64 (w64 (t13_11 + 1))) rfl rfl rfl ?_
      refine g_end ?_
      refine e_end ?_
      refine renew [(2, (.ref (.bx 2) 0 [] (.agg [(.sl .nl (Enc.shp Int) 0 [])]))), (3, (.ref (.bx 3) 0 [] (.agg [(encO (.at 8 []) (.of ((w_10.set e_19.1.toNat (ior .i64 e_20 q_21)).set e_19.2.toNat (ior .i64 e_23 q_24) : List Int)))]))), (11, (Enc.enc (g_1.2 : List (Int × Int)))), (12, (.int .i64 (g_1.2.length : Int))), (13, (.int .i64 (w64 (t13_11 + 1))))] ⟨h2, h3, h11, h12, rfl⟩ ?_
      rintro s ⟨h2, h3, h11, h12, h13⟩
      refine .nlp ?_
      exact ih ((w_10.set e_19.1.toNat (ior .i64 e_20 q_21)).set e_19.2.toNat (ior .i64 e_23 q_24)) (w64 (t13_11 + 1)) _ ⟨h2, h3, h11, h12, h13⟩ h
    · refine .exit ?_
      refine .esq ?_
      refine .elp ?_
      refine .ebk ?_
      refine .nsq ?_
      refine .seq ?_
      refine run_reg ?_
      refine e_end ?_
      refine g_v1 (t := 3) (u := (.ref (.bx 3) 0 [] (.agg [(encO (.at 8 []) (.of (w_10 : List Int)))]))) (.agg [(encO (.at 8 []) (.of (w_10 : List Int)))]) h3 rfl rfl ?_
      refine g_store (.agg [(encO (.at 8 []) (.of (w_10 : List Int)))]) (rd_of h2 rfl) (rd_of rfl rfl) (by refine ⟨by decide, by decide, rfl, rfl, rfl, ?_⟩; first | rfl | simp [V.toks, V.tokss, Enc.toks_enc]) ?_
      refine g_end ?_
      refine e_end ?_
      refine renew [(2, (.ref (.bx 2) 0 [] (.agg [(encO (.at 8 []) (.of (w_10 : List Int)))])))] (keep_mut h2 rfl) ?_
      rintro s h2
      refine .nsq ?_
      refine .ret ?_
      have hr := Option.some.inj h
      subst hr
      exact rrA (res_cell h2 (by kernel_rfl)) (fin_retF (fin_agg (fins_cons (fin_own (o := .of w_10)) fins_nil)) (mine_agg (mines_cons (mine_own rfl) mines_nil)))
def i_netOf (F : Nat) (g_1 : (Int × (List (Int × Int)))) : Option (S1 (List Int)) :=
  (mkN g_1.1 0).bind fun mk_2 =>
  i_netOf_l1 F g_1 F mk_2 0
theorem t55 (H : H55 D σ F) (g_1 : (Int × (List (Int × Int)))) (s : Nat → V) (hs : Facts [(0, (.agg [(.int .i64 g_1.1), (Enc.enc (g_1.2 : List (Int × Int)))]))] s) (h : i_netOf F g_1 = some r) : Run D σ (R55 r) (.run A55 []) s := by
  unfold i_netOf at h
  have h0 := hs
  refine .seq ?_
  refine run_reg ?_
  refine e_clr ?_
  refine e_end ?_
  refine g_box (.agg [(.int .i64 g_1.1), (Enc.enc (g_1.2 : List (Int × Int)))]) (rd_of (keep_clear (s := s) (pk := [1, 2]) h0 rfl (map_agg (maps_cons rfl (maps_cons (Enc.map_enc _ (g_1.2 : List (Int × Int))) maps_nil)))) rfl) (gone_clear (s := s) (pk := [1, 2]) (t := 1) rfl) rfl ?_
  refine g_alloc (gone_clear (s := s) (pk := [1, 2]) (t := 2) rfl) ?_
  refine g_end ?_
  refine e_end ?_
  refine renew [(1, (.ref (.bx 1) 0 [] (.agg [(.int .i64 g_1.1), (Enc.enc (g_1.2 : List (Int × Int)))]))), (2, (.ref (.bx 2) 0 [] (.agg [(.sl .nl (Enc.shp Int) 0 [])])))] ⟨rfl, rfl⟩ ?_
  rintro s ⟨h1, h2⟩
  refine .nsq ?_
  refine .seq ?_
  refine run_reg ?_
  refine e_clr ?_
  refine e_end ?_
  refine g_v1 (t := 1) (u := (.ref (.bx 1) 0 [] (.agg [(.int .i64 g_1.1), (Enc.enc (g_1.2 : List (Int × Int)))]))) (.ref (.bx 1) 0 [0] (.int .i64 g_1.1)) (keep_clear (s := s) (pk := [8, 3]) h1 rfl (map_bx rfl (map_agg (maps_cons rfl (maps_cons (Enc.map_enc _ (g_1.2 : List (Int × Int))) maps_nil))))) rfl rfl ?_
  refine g_v1 (t := 6) (u := (.ref (.bx 1) 0 [0] (.int .i64 g_1.1))) (.int .i64 g_1.1) rfl rfl rfl ?_
  obtain ⟨mk_2, E_mk_2, h⟩ := bind_some h
  refine g_mk (0 : Int) rfl rfl (gone_clear (s := s) (pk := [8, 3]) (t := 8) rfl) E_mk_2 ?_
  refine g_v1 (t := 8) (u := (encO (.at 8 []) (.of (mk_2 : List Int)))) (.agg [(encO (.at 8 []) (.of (mk_2 : List Int)))]) rfl rfl rfl ?_
  refine g_alloc (gone_clear (s := s) (pk := [8, 3]) (t := 3) rfl) ?_
  refine g_store (.agg [(encO (.at 8 []) (.of (mk_2 : List Int)))]) (rd_of rfl rfl) (rd_of rfl rfl) (by refine ⟨by decide, by decide, rfl, rfl, rfl, ?_⟩; first | rfl | simp [V.toks, V.tokss, Enc.toks_enc]) ?_
  refine g_end ?_
  refine e_end ?_
  refine renew [(1, (.ref (.bx 1) 0 [] (.agg [(.int .i64 g_1.1), (Enc.enc (g_1.2 : List (Int × Int)))]))), (2, (.ref (.bx 2) 0 [] (.agg [(.sl .nl (Enc.shp Int) 0 [])]))), (3, (.ref (.bx 3) 0 [] (.agg [(encO (.at 8 []) (.of (mk_2 : List Int)))])))] ⟨(keep_mut (keep_clear (s := s) (pk := [8, 3]) h1 rfl (map_bx rfl (map_agg (maps_cons rfl (maps_cons (Enc.map_enc _ (g_1.2 : List (Int × Int))) maps_nil))))) (mut_ref_ne rfl rfl (mut_agg (muts_cons rfl (muts_cons (Enc.mut_enc _ _ _ _ (g_1.2 : List (Int × Int))) rfl))))), (keep_mut (keep_clear (s := s) (pk := [8, 3]) h2 rfl (map_bx rfl (map_agg (maps_cons rfl maps_nil)))) (mut_ref_ne rfl rfl (mut_agg (muts_cons rfl rfl)))), (keep_mut rfl rfl)⟩ ?_
  rintro s ⟨h1, h2, h3⟩
  refine .nsq ?_
  refine .seq ?_
  refine .seq ?_
  refine run_reg ?_
  refine e_end ?_
  refine g_v1 (t := 1) (u := (.ref (.bx 1) 0 [] (.agg [(.int .i64 g_1.1), (Enc.enc (g_1.2 : List (Int × Int)))]))) (.ref (.bx 1) 0 [1] (Enc.enc (g_1.2 : List (Int × Int)))) h1 rfl rfl ?_
  refine g_v1 (t := 10) (u := (.ref (.bx 1) 0 [1] (Enc.enc (g_1.2 : List (Int × Int))))) (Enc.enc (g_1.2 : List (Int × Int))) rfl rfl rfl ?_
  refine g_v (.int .i64 (g_1.2.length : Int)) (ev_len (xs := g_1.2) rfl) ?_
  refine g_v0 (.int .i64 0) rfl rfl ?_
  refine g_end ?_
  refine e_end ?_
  refine renew [(2, (.ref (.bx 2) 0 [] (.agg [(.sl .nl (Enc.shp Int) 0 [])]))), (3, (.ref (.bx 3) 0 [] (.agg [(encO (.at 8 []) (.of (mk_2 : List Int)))]))), (11, (Enc.enc (g_1.2 : List (Int × Int)))), (12, (.int .i64 (g_1.2.length : Int))), (13, (.int .i64 0))] ⟨h2, h3, rfl, rfl, rfl⟩ ?_
  rintro s ⟨h2, h3, h11, h12, h13⟩
  refine .nsq ?_
  refine .block ?_
  refine .loop ?_
  exact t_f55_l1 H g_1 F mk_2 0 _ ⟨h2, h3, h11, h12, h13⟩ h
end
def e55 (F : Nat) : Ent := ⟨55, da (fun (x : ((Int × (List (Int × Int))) × Unit)) => i_netOf F x.1) (fun (r : (S1 (List Int))) => (Enc.enc (r : (S1 (List Int))))), 0, false, selF []⟩
theorem p55 {F : Nat} {x0 : (Int × (List (Int × Int)))} {r : (S1 (List Int))} (h : i_netOf F x0 = some r) : (e55 F).den [Enc.enc x0] = some (Enc.enc (r : (S1 (List Int)))) := da_put (f := fun (x : ((Int × (List (Int × Int))) × Unit)) => i_netOf F x.1) (t := fun (r : (S1 (List Int))) => (Enc.enc (r : (S1 (List Int))))) (x0, ()) h
theorem o55 {D : Den} {σ : Sig} {F : Nat} (hF : Fits2 Try.prog D σ) (H : H55 D σ F) : (e55 F).Ok Try.prog := by
  refine ⟨fun args r h => ?_, ⟨Try.f55, Try.func55, rfl, rfl⟩⟩
  obtain ⟨⟨x0, _⟩, y, rfl, hy, rfl⟩ := da_open h
  exact contract_run hF (by kernel_rfl) Try.func55 rfl c55 (show 1 ≤ Try.f55.ntmps by decide) (t55 H x0 _ rfl hy)
/- (loop.example/g01109/impl.net).all -/
def A68_1 : AC := (AC.seq (AC.reg [] [(I.mk (some 3) none false (X.v (A.fld (O.t 1) 0 0))), (I.mk (some 4) none false (X.v (A.load Sh.p (O.t 3)))), (I.mk (some 5) none false (X.v (A.len (O.t 4)))), (I.mk (some 6) none false (X.v (A.bin BinOp.shl (O.k (V.int IntKind.i64 (Int.ofNat 1))) (O.t 5)))), (I.mk (some 7) none false (X.v (A.bin BinOp.sub (O.t 6) (O.k (V.int IntKind.i64 (Int.ofNat 1)))))), (I.mk (some 2) none false (X.v (A.mov (O.t 7))))] []) AC.ret)
def A68 : AC := (AC.seq (AC.reg [.clr [1]] [(I.mk (some 1) none false (X.box (O.t 0))), (I.mk (some 2) none false (X.v (A.mov (O.k (V.int IntKind.i64 (Int.ofNat 0))))))] []) A68_1)
def an68 : List An := [{ id := 0, pre := [.clr [1]], ep := [], lin := [], sp := [] }]
theorem c68 : cC Try.prog Try.f68.ntmps an68 (Try.f68.body.getD .skip) = some A68 := by kernel_rfl
structure H68 (D : Den) (σ : Sig) (F : Nat) : Prop where
  mk ::
abbrev R68 (r : Int) : (Nat → V) → Prop := RR Try.prog [.tmp 2] 0 false (Enc.enc (r : Int))
section
variable {D : Den} {σ : Sig} {F : Nat} {r : Int}
def i_net_all (F : Nat) (w_1 : (S1 (List Int))) : Option Int :=
  (shlI .i64 1 (w_1.a.length : Int)).bind fun q_2 =>
  some (w64 (q_2 - 1))
theorem t68 (H : H68 D σ F) (w_1 : (S1 (List Int))) (s : Nat → V) (hs : Facts [(0, (.agg [(Enc.enc (w_1.a : List Int))]))] s) (h : i_net_all F w_1 = some r) : Run D σ (R68 r) (.run A68 []) s := by
  unfold i_net_all at h
  have h0 := hs
  refine .seq ?_
  refine run_reg ?_
  refine e_clr ?_
  refine e_end ?_
  refine g_box (.agg [(Enc.enc (w_1.a : List Int))]) (rd_of (keep_clear (s := s) (pk := [1]) h0 rfl (map_agg (maps_cons (Enc.map_enc _ (w_1.a : List Int)) maps_nil))) rfl) (gone_clear (s := s) (pk := [1]) (t := 1) rfl) rfl ?_
  refine g_v0 (.int .i64 0) rfl rfl ?_
  refine g_end ?_
  refine e_end ?_
  refine renew [(1, (.ref (.bx 1) 0 [] (.agg [(Enc.enc (w_1.a : List Int))]))), (2, (.int .i64 0))] ⟨rfl, rfl⟩ ?_
  rintro s ⟨h1, h2⟩
  refine .nsq ?_
  refine .seq ?_
  refine run_reg ?_
  refine e_end ?_
  refine g_v1 (t := 1) (u := (.ref (.bx 1) 0 [] (.agg [(Enc.enc (w_1.a : List Int))]))) (.ref (.bx 1) 0 [0] (Enc.enc (w_1.a : List Int))) h1 rfl rfl ?_
  refine g_v1 (t := 3) (u := (.ref (.bx 1) 0 [0] (Enc.enc (w_1.a : List Int)))) (Enc.enc (w_1.a : List Int)) rfl rfl rfl ?_
  refine g_v (.int .i64 (w_1.a.length : Int)) (ev_len (xs := w_1.a) rfl) ?_
  obtain ⟨q_2, E_q_2, h⟩ := bind_some h
  refine g_v (.int .i64 q_2) (ev_shl rfl rfl E_q_2) ?_
  refine g_v1 (t := 6) (u := (.int .i64 q_2)) (.int .i64 (w64 (q_2 - 1))) rfl rfl rfl ?_
  refine g_v1 (t := 7) (u := (.int .i64 (w64 (q_2 - 1)))) (.int .i64 (w64 (q_2 - 1))) rfl rfl rfl ?_
  refine g_end ?_
  refine e_end ?_
  refine renew [(2, (.int .i64 (w64 (q_2 - 1))))] rfl ?_
  rintro s h2
  refine .nsq ?_
  refine .ret ?_
  have hr := Option.some.inj h
  subst hr
  exact rrA (res_tmp h2) rfl
end
def e68 (F : Nat) : Ent := ⟨68, da (fun (x : ((S1 (List Int)) × Unit)) => i_net_all F x.1) (fun (r : Int) => (Enc.enc (r : Int))), 0, false, selF []⟩
theorem p68 {F : Nat} {x0 : (S1 (List Int))} {r : Int} (h : i_net_all F x0 = some r) : (e68 F).den [Enc.enc x0] = some (Enc.enc (r : Int)) := da_put (f := fun (x : ((S1 (List Int)) × Unit)) => i_net_all F x.1) (t := fun (r : Int) => (Enc.enc (r : Int))) (x0, ()) h
theorem o68 {D : Den} {σ : Sig} {F : Nat} (hF : Fits2 Try.prog D σ) (H : H68 D σ F) : (e68 F).Ok Try.prog := by
  refine ⟨fun args r h => ?_, ⟨Try.f68, Try.func68, rfl, rfl⟩⟩
  obtain ⟨⟨x0, _⟩, y, rfl, hy, rfl⟩ := da_open h
  exact contract_run hF (by kernel_rfl) Try.func68 rfl c68 (show 1 ≤ Try.f68.ntmps by decide) (t68 H x0 _ rfl hy)
/- loop.example/g01109/impl.setOf -/
def A121_2 : AC := (AC.cond (O.t 8) AC.skip (AC.exit 0))
def A121_4 : AC := (AC.cond (O.t 15) (AC.reg [.clr [18, 19]] [(I.mk (some 16) none false (X.v (A.mov (O.t 3)))), (I.mk (some 17) none false (X.v (A.mov (O.t 4)))), (I.mk (some 18) none false (X.lit (V.int IntKind.i64 (Int.ofNat 0)) 1 [(0, 0, (O.t 17))])), (I.mk (some 19) none false (X.app Sh.s (O.t 16) (O.t 18))), (I.mk (some 3) none false (X.v (A.mov (O.t 19))))] [.home 19 3]) AC.skip)
def A121_5 : AC := (AC.reg [] [(I.mk (some 9) none false (X.v (A.mov (O.t 4)))), (I.mk (some 10) none false (X.v (A.bin BinOp.add (O.t 9) (O.k (V.int IntKind.i64 (Int.ofNat 1)))))), (I.mk (some 4) none false (X.v (A.mov (O.t 10))))] [])
def A121_3 : AC := (AC.seq (AC.block 1 (AC.seq (AC.reg [] [(I.mk (some 11) none false (X.v (A.mov (O.t 0)))), (I.mk (some 12) none false (X.v (A.mov (O.t 4)))), (I.mk (some 13) none false (X.v (A.bin BinOp.shr (O.t 11) (O.t 12)))), (I.mk (some 14) none false (X.v (A.bin BinOp.and (O.t 13) (O.k (V.int IntKind.i64 (Int.ofNat 1)))))), (I.mk (some 15) none false (X.v (A.bin BinOp.eql (O.t 14) (O.k (V.int IntKind.i64 (Int.ofNat 1))))))] []) A121_4)) A121_5)
def A121_1 : AC := (AC.seq (AC.seq (AC.reg [] [(I.mk (some 5) none false (X.v (A.mov (O.t 0)))), (I.mk (some 6) none false (X.v (A.mov (O.t 4)))), (I.mk (some 7) none false (X.v (A.bin BinOp.shr (O.t 5) (O.t 6)))), (I.mk (some 8) none false (X.v (A.bin BinOp.neq (O.t 7) (O.k (V.int IntKind.i64 (Int.ofNat 0))))))] []) A121_2) A121_3)
def A121_6 : AC := (AC.seq (AC.reg [] [(I.mk (some 20) none false (X.v (A.mov (O.t 3)))), (I.mk (some 2) none false (X.v (A.mov (O.t 20))))] [.home 3 2]) AC.ret)
def A121_9 : AC := (AC.block 0 (AC.loop A121_1))
def A121_8 : AC := (AC.seq (AC.seq (AC.reg [] [(I.mk (some 4) none false (X.v (A.mov (O.k (V.int IntKind.i64 (Int.ofNat 0))))))] []) A121_9) A121_6)
def A121_7 : AC := (AC.seq (AC.reg [] [(I.mk (some 3) none false (X.v (A.mov (O.k (V.sl Tok.nl Sh.s 0 [])))))] []) A121_8)
def A121 : AC := (AC.seq (AC.reg [] [(I.mk (some 2) none false (X.v (A.mov (O.k (V.sl Tok.nl Sh.s 0 [])))))] []) A121_7)
def an121 : List An := [{ id := 6, pre := [.clr [18, 19]], ep := [.home 19 3], lin := [], sp := [] }, { id := 7, pre := [], ep := [.home 3 2], lin := [], sp := [] }]
theorem c121 : cC Try.prog Try.f121.ntmps an121 (Try.f121.body.getD .skip) = some A121 := by kernel_rfl
structure H121 (D : Den) (σ : Sig) (F : Nat) : Prop where
  mk ::
abbrev R121 (r : (List Int)) : (Nat → V) → Prop := RR Try.prog [.tmp 2] 0 false (Enc.enc (r : (List Int)))
section
variable {D : Den} {σ : Sig} {F : Nat} {r : (List Int)}
def i_setOf_j1 (F : Nat) (set_1 : Int) (x_8 : Int) (c1 : (NL Int) → Int → Option (List Int)) (list_17 : (NL Int)) : Option (List Int) :=
  c1 list_17 (w64 (x_8 + 1))
theorem t_f121_j1 (H : H121 D σ F) (set_1 : Int) (x_8 : Int) (c1 : (NL Int) → Int → Option (List Int)) (Hc1 : ∀ (list_7 : (NL Int)) (x_8 : Int) (s : Nat → V), Facts [(0, (.int .i64 set_1)), (2, (.sl .nl (Enc.shp Int) 0 [])), (3, (encO (.at 3 []) (list_7 : NL Int))), (4, (.int .i64 x_8))] s → c1 list_7 x_8 = some r → Run D σ (R121 r) (.run A121_1 [.lp A121_1, .bk 0, .sq A121_6]) s) (list_17 : (NL Int)) (s : Nat → V) (hs : Facts [(0, (.int .i64 set_1)), (2, (.sl .nl (Enc.shp Int) 0 [])), (3, (encO (.at 3 []) (list_17 : NL Int))), (4, (.int .i64 x_8))] s) (h : i_setOf_j1 F set_1 x_8 c1 list_17 = some r) : Run D σ (R121 r) (.nrm [.bk 1, .sq A121_5, .lp A121_1, .bk 0, .sq A121_6]) s := by
  unfold i_setOf_j1 at h
  obtain ⟨h0, h2, h3, h4⟩ := hs
  refine .nbk ?_
  refine .nsq ?_
  refine run_reg ?_
  refine e_end ?_
  refine g_v1 (t := 4) (u := (.int .i64 x_8)) (.int .i64 x_8) h4 rfl rfl ?_
  refine g_v1 (t := 9) (u := (.int .i64 x_8)) (.int .i64 (w64 (x_8 + 1))) rfl rfl rfl ?_
  refine g_v1 (t := 10) (u := (.int .i64 (w64 (x_8 + 1)))) (.int .i64 (w64 (x_8 + 1))) rfl rfl rfl ?_
  refine g_end ?_
  refine e_end ?_
  refine renew [(0, (.int .i64 set_1)), (2, (.sl .nl (Enc.shp Int) 0 [])), (3, (encO (.at 3 []) (list_17 : NL Int))), (4, (.int .i64 (w64 (x_8 + 1))))] ⟨h0, h2, h3, rfl⟩ ?_
  rintro s ⟨h0, h2, h3, h4⟩
  refine .nlp ?_
  exact Hc1 list_17 (w64 (x_8 + 1)) _ ⟨h0, h2, h3, h4⟩ h
def i_setOf_l1 (F : Nat) (set_1 : Int)  : Nat → (NL Int) → Int → Option (List Int)
  | 0, _, _ => none
  | k + 1, list_7, x_8 =>
    (shrI .i64 set_1 x_8).bind fun q_14 =>
    bif (q_14 != 0) then
      (shrI .i64 set_1 x_8).bind fun q_15 =>
      bif ((iand .i64 q_15 1) == 1) then
        (appL list_7.list [x_8]).bind fun ap_18 =>
        i_setOf_j1 F set_1 x_8 (i_setOf_l1 F set_1 k) (.of ap_18)
      else
        i_setOf_j1 F set_1 x_8 (i_setOf_l1 F set_1 k) list_7
    else
      some list_7.list
theorem t_f121_l1 (H : H121 D σ F) (set_1 : Int)  : ∀ (k : Nat) (list_7 : (NL Int)) (x_8 : Int) (s : Nat → V), Facts [(0, (.int .i64 set_1)), (2, (.sl .nl (Enc.shp Int) 0 [])), (3, (encO (.at 3 []) (list_7 : NL Int))), (4, (.int .i64 x_8))] s → i_setOf_l1 F set_1 k list_7 x_8 = some r → Run D σ (R121 r) (.run A121_1 [.lp A121_1, .bk 0, .sq A121_6]) s := by
  intro k
  induction k with
  | zero => intro list_7 x_8 s _ h; exact nomatch (h : (none : Option _) = some r)
  | succ k ih =>
    intro list_7 x_8 s hs h
    rw [i_setOf_l1] at h
    obtain ⟨h0, h2, h3, h4⟩ := hs
    refine .seq ?_
    refine .seq ?_
    refine run_reg ?_
    refine e_end ?_
    refine g_v1 (t := 0) (u := (.int .i64 set_1)) (.int .i64 set_1) h0 rfl rfl ?_
    refine g_v1 (t := 4) (u := (.int .i64 x_8)) (.int .i64 x_8) h4 rfl rfl ?_
    obtain ⟨q_14, E_q_14, h⟩ := bind_some h
    refine g_v (.int .i64 q_14) (ev_shr rfl rfl E_q_14) ?_
    refine g_v1 (t := 7) (u := (.int .i64 q_14)) (.bool (q_14 != 0)) rfl rfl rfl ?_
    refine g_end ?_
    refine e_end ?_
    refine renew [(0, (.int .i64 set_1)), (2, (.sl .nl (Enc.shp Int) 0 [])), (3, (encO (.at 3 []) (list_7 : NL Int))), (4, (.int .i64 x_8)), (8, (.bool (q_14 != 0)))] ⟨h0, h2, h3, h4, rfl⟩ ?_
    rintro s ⟨h0, h2, h3, h4, h8⟩
    refine .nsq ?_
    refine run_cond (t := (q_14 != 0)) h8 h (fun h => ?_) (fun h => ?_)
    · refine .skip ?_
      refine .nsq ?_
      refine .seq ?_
      refine .block ?_
      refine .seq ?_
      refine run_reg ?_
      refine e_end ?_
      refine g_v1 (t := 0) (u := (.int .i64 set_1)) (.int .i64 set_1) h0 rfl rfl ?_
      refine g_v1 (t := 4) (u := (.int .i64 x_8)) (.int .i64 x_8) h4 rfl rfl ?_
      obtain ⟨q_15, E_q_15, h⟩ := bind_some h
      refine g_v (.int .i64 q_15) (ev_shr rfl rfl E_q_15) ?_
      refine g_v1 (t := 13) (u := (.int .i64 q_15)) (.int .i64 (iand .i64 q_15 1)) rfl rfl rfl ?_
      refine g_v1 (t := 14) (u := (.int .i64 (iand .i64 q_15 1))) (.bool ((iand .i64 q_15 1) == 1)) rfl rfl rfl ?_
      refine g_end ?_
      refine e_end ?_
      refine renew [(0, (.int .i64 set_1)), (2, (.sl .nl (Enc.shp Int) 0 [])), (3, (encO (.at 3 []) (list_7 : NL Int))), (4, (.int .i64 x_8)), (15, (.bool ((iand .i64 q_15 1) == 1)))] ⟨h0, h2, h3, h4, rfl⟩ ?_
      rintro s ⟨h0, h2, h3, h4, h15⟩
      refine .nsq ?_
      refine run_cond (t := ((iand .i64 q_15 1) == 1)) h15 h (fun h => ?_) (fun h => ?_)
      · refine run_reg ?_
        refine e_clr ?_
        refine e_end ?_
        refine g_v (encO (.at 3 []) (list_7 : NL Int)) (ev_mov (keep_clear (s := s) (pk := [18, 19]) h3 rfl (map_encO (r := 3) (p := []) rfl rfl)) ok_encO) ?_
        refine g_v1 (t := 4) (u := (.int .i64 x_8)) (.int .i64 x_8) (keep_clear (s := s) (pk := [18, 19]) h4 rfl rfl) rfl rfl ?_
        refine g_litL [(17, (.int .i64 x_8))] [Enc.enc (x_8 : Int)] rfl rfl rfl (gone_clear (s := s) (pk := [18, 19]) (t := 18) rfl) ?_
        obtain ⟨ap_18, E_ap_18, h⟩ := bind_some h
        refine g_app (q := 3) (p := []) (o := (list_7 : NL Int)) (ys := ([x_8] : List Int)) (t2 := (.at 18 [])) (lo2 := 0) rfl rfl rfl (gone_clear (s := s) (pk := [18, 19]) (t := 19) rfl) (appN_L (o := (list_7 : NL Int)) E_ap_18 (by split <;> simp)) (fun s_17 ha_17 => ?_)
        refine g_v1 (t := 19) (u := (encO (.at 19 []) (.of (ap_18 : List Int)))) (encO (.at 19 []) (.of (ap_18 : List Int))) rfl rfl rfl ?_
        refine g_end ?_
        refine e_home (r := 19) (x := 3) (v := (encO (.at 19 []) (.of (ap_18 : List Int)))) (by exact rfl) rfl (fun s_18 hg_18 => ?_)
        refine e_end ?_
        refine renew [(0, (.int .i64 set_1)), (2, (.sl .nl (Enc.shp Int) 0 [])), (3, (encO (.at 3 []) (.of (ap_18 : List Int)))), (4, (.int .i64 x_8))] ⟨(hg_18 0 (.int .i64 set_1) (.int .i64 set_1) (show s_17 0 = (.int .i64 set_1) from keep_app ha_17 (keep_clear (s := s) (pk := [18, 19]) h0 rfl rfl) rfl) rfl), (hg_18 2 (.sl .nl (Enc.shp Int) 0 []) (.sl .nl (Enc.shp Int) 0 []) (show s_17 2 = (.sl .nl (Enc.shp Int) 0 []) from keep_app ha_17 (keep_clear (s := s) (pk := [18, 19]) h2 rfl rfl) rfl) rfl), (hg_18 3 (encO (.at 19 []) (.of (ap_18 : List Int))) (encO (.at 3 []) (.of (ap_18 : List Int))) rfl (map_encO (r := 19) (p := []) rfl rfl)), (hg_18 4 (.int .i64 x_8) (.int .i64 x_8) (show s_17 4 = (.int .i64 x_8) from keep_app ha_17 (keep_clear (s := s) (pk := [18, 19]) h4 rfl rfl) rfl) rfl)⟩ ?_
        rintro s ⟨h0, h2, h3, h4⟩
        exact t_f121_j1 H set_1 x_8 (i_setOf_l1 F set_1 k) ih (.of ap_18) _ ⟨h0, h2, h3, h4⟩ h
      · refine .skip ?_
        exact t_f121_j1 H set_1 x_8 (i_setOf_l1 F set_1 k) ih list_7 _ ⟨h0, h2, h3, h4⟩ h
    · refine .exit ?_
      refine .esq ?_
      refine .elp ?_
      refine .ebk ?_
      refine .nsq ?_
      refine .seq ?_
      refine run_reg ?_
      refine e_end ?_
      refine g_v (encO (.at 3 []) (list_7 : NL Int)) (ev_mov h3 ok_encO) ?_
      refine g_v (encO (.at 3 []) (list_7 : NL Int)) (ev_mov rfl ok_encO) ?_
      refine g_end ?_
      refine e_home (r := 3) (x := 2) (v := (encO (.at 3 []) (list_7 : NL Int))) (by exact rfl) ok_encO (fun s_19 hg_19 => ?_)
      refine e_end ?_
      refine renew [(2, (encO (.at 2 []) (list_7 : NL Int)))] (hg_19 2 (encO (.at 3 []) (list_7 : NL Int)) (encO (.at 2 []) (list_7 : NL Int)) rfl (map_encO (r := 3) (p := []) rfl rfl)) ?_
      rintro s h2
      refine .nsq ?_
      refine .ret ?_
      have hr := Option.some.inj h
      subst hr
      exact rrA (res_tmp h2) (fin_retF (fin_own (o := list_7)) (mine_own rfl))
def i_setOf (F : Nat) (set_1 : Int) : Option (List Int) :=
  i_setOf_l1 F set_1 F .nil 0
theorem t121 (H : H121 D σ F) (set_1 : Int) (s : Nat → V) (hs : Facts [(0, (.int .i64 set_1))] s) (h : i_setOf F set_1 = some r) : Run D σ (R121 r) (.run A121 []) s := by
  unfold i_setOf at h
  have h0 := hs
  refine .seq ?_
  refine run_reg ?_
  refine e_end ?_
  refine g_v0 (.sl .nl (Enc.shp Int) 0 []) rfl rfl ?_
  refine g_end ?_
  refine e_end ?_
  refine renew [(0, (.int .i64 set_1)), (2, (.sl .nl (Enc.shp Int) 0 []))] ⟨h0, rfl⟩ ?_
  rintro s ⟨h0, h2⟩
  refine .nsq ?_
  refine .seq ?_
  refine run_reg ?_
  refine e_end ?_
  refine g_v0 (.sl .nl (Enc.shp Int) 0 []) rfl rfl ?_
  refine g_end ?_
  refine e_end ?_
  refine renew [(0, (.int .i64 set_1)), (2, (.sl .nl (Enc.shp Int) 0 [])), (3, (.sl .nl (Enc.shp Int) 0 []))] ⟨h0, h2, rfl⟩ ?_
  rintro s ⟨h0, h2, h3⟩
  refine .nsq ?_
  refine .seq ?_
  refine .seq ?_
  refine run_reg ?_
  refine e_end ?_
  refine g_v0 (.int .i64 0) rfl rfl ?_
  refine g_end ?_
  refine e_end ?_
  refine renew [(0, (.int .i64 set_1)), (2, (.sl .nl (Enc.shp Int) 0 [])), (3, (.sl .nl (Enc.shp Int) 0 [])), (4, (.int .i64 0))] ⟨h0, h2, h3, rfl⟩ ?_
  rintro s ⟨h0, h2, h3, h4⟩
  refine .nsq ?_
  refine .block ?_
  refine .loop ?_
  exact t_f121_l1 H set_1 F .nil 0 _ ⟨h0, h2, h3, h4⟩ h
end
def e121 (F : Nat) : Ent := ⟨121, da (fun (x : (Int × Unit)) => i_setOf F x.1) (fun (r : (List Int)) => (Enc.enc (r : (List Int)))), 0, false, selF []⟩
theorem p121 {F : Nat} {x0 : Int} {r : (List Int)} (h : i_setOf F x0 = some r) : (e121 F).den [Enc.enc x0] = some (Enc.enc (r : (List Int))) := da_put (f := fun (x : (Int × Unit)) => i_setOf F x.1) (t := fun (r : (List Int)) => (Enc.enc (r : (List Int)))) (x0, ()) h
theorem o121 {D : Den} {σ : Sig} {F : Nat} (hF : Fits2 Try.prog D σ) (H : H121 D σ F) : (e121 F).Ok Try.prog := by
  refine ⟨fun args r h => ?_, ⟨Try.f121, Try.func121, rfl, rfl⟩⟩
  obtain ⟨⟨x0, _⟩, y, rfl, hy, rfl⟩ := da_open h
  exact contract_run hF (by kernel_rfl) Try.func121 rfl c121 (show 1 ≤ Try.f121.ntmps by decide) (t121 H x0 _ rfl hy)
/- (loop.example/g01109/impl.net).front -/
def A81_5 : AC := (AC.cond (O.t 22) (AC.reg [] [(I.mk (some 23) none false (X.v (A.mov (O.t 5)))), (I.mk (some 24) none false (X.v (A.mov (O.t 7)))), (I.mk (some 25) none false (X.v (A.bin BinOp.shl (O.k (V.int IntKind.i64 (Int.ofNat 1))) (O.t 24)))), (I.mk (some 26) none false (X.v (A.bin BinOp.or (O.t 23) (O.t 25)))), (I.mk (some 5) none false (X.v (A.mov (O.t 26))))] []) AC.skip)
def A81_4 : AC := (AC.seq (AC.reg [] [(I.mk (some 15) none false (X.v (A.fld (O.t 2) 0 0))), (I.mk (some 16) none false (X.v (A.load Sh.p (O.t 15)))), (I.mk (some 17) none false (X.v (A.mov (O.t 7)))), (I.mk (some 18) none false (X.v (A.idx (O.t 16) (O.t 17) 1))), (I.mk (some 19) none false (X.v (A.load Sh.s (O.t 18)))), (I.mk (some 20) none false (X.v (A.mov (O.t 1)))), (I.mk (some 21) none false (X.v (A.bin BinOp.andNot (O.t 19) (O.t 20)))), (I.mk (some 22) none false (X.v (A.bin BinOp.neq (O.t 21) (O.k (V.int IntKind.i64 (Int.ofNat 0))))))] []) A81_5)
def A81_6 : AC := (AC.reg [] [(I.mk (some 27) none false (X.v (A.bin BinOp.add (O.t 11) (O.k (V.int IntKind.i64 (Int.ofNat 1)))))), (I.mk (some 11) none false (X.v (A.mov (O.t 27))))] [])
def A81_3 : AC := (AC.seq (AC.block 1 (AC.seq (AC.reg [] [(I.mk (some 13) none false (X.v (A.idx (O.t 9) (O.t 11) 1))), (I.mk (some 14) none false (X.v (A.load Sh.s (O.t 13)))), (I.mk (some 7) none false (X.v (A.mov (O.t 14))))] []) A81_4)) A81_6)
def A81_2 : AC := (AC.seq (AC.cond (O.t 12) AC.skip (AC.exit 0)) A81_3)
def A81_1 : AC := (AC.seq (AC.reg [] [(I.mk (some 12) none false (X.v (A.bin BinOp.lss (O.t 11) (O.t 10))))] []) A81_2)
def A81_7 : AC := (AC.seq (AC.reg [] [(I.mk (some 28) none false (X.v (A.mov (O.t 5)))), (I.mk (some 4) none false (X.v (A.mov (O.t 28))))] []) AC.ret)
def A81_10 : AC := (AC.block 0 (AC.loop A81_1))
def A81_9 : AC := (AC.seq (AC.seq (AC.reg [] [(I.mk (some 8) none false (X.v (A.mov (O.t 1)))), (I.mk (some 9) none false (X.call (O.k (V.fn 121 [] [])) [(O.t 8)])), (I.mk (some 10) none false (X.v (A.len (O.t 9)))), (I.mk (some 11) none false (X.v (A.mov (O.k (V.int IntKind.i64 (Int.ofNat 0))))))] []) A81_10) A81_7)
def A81_8 : AC := (AC.seq (AC.reg [] [(I.mk (some 5) none false (X.v (A.mov (O.k (V.int IntKind.i64 (Int.ofNat 0))))))] []) A81_9)
def A81 : AC := (AC.seq (AC.reg [.clr [2]] [(I.mk (some 2) none false (X.box (O.t 0))), (I.mk (some 4) none false (X.v (A.mov (O.k (V.int IntKind.i64 (Int.ofNat 0))))))] []) A81_8)
def an81 : List An := [{ id := 0, pre := [.clr [2]], ep := [], lin := [], sp := [] }]
theorem c81 : cC Try.prog Try.f81.ntmps an81 (Try.f81.body.getD .skip) = some A81 := by kernel_rfl
structure H81 (D : Den) (σ : Sig) (F : Nat) : Prop where
  c121 : ∀ (x0 : Int) r, i_setOf F x0 = some r → D 121 [Enc.enc x0] = some (Enc.enc (r : (List Int)))
  g121 : σ 121 = some (0, false)
abbrev R81 (r : Int) : (Nat → V) → Prop := RR Try.prog [.tmp 4] 0 false (Enc.enc (r : Int))
section
variable {D : Den} {σ : Sig} {F : Nat} {r : Int}
def i_net_front_j1 (F : Nat) (set_2 : Int) (w_1 : (S1 (List Int))) (r_3 : (List Int)) (t11_10 : Int) (c1 : Int → Int → Option Int) (front_19 : Int) : Option Int :=
  c1 front_19 (w64 (t11_10 + 1))
theorem t_f81_j1 (H : H81 D σ F) (set_2 : Int) (w_1 : (S1 (List Int))) (r_3 : (List Int)) (t11_10 : Int) (c1 : Int → Int → Option Int) (Hc1 : ∀ (front_9 : Int) (t11_10 : Int) (s : Nat → V), Facts [(1, (.int .i64 set_2)), (2, (.ref (.bx 2) 0 [] (.agg [(Enc.enc (w_1.a : List Int))]))), (4, (.int .i64 0)), (5, (.int .i64 front_9)), (9, (Enc.enc (r_3 : List Int))), (10, (.int .i64 (r_3.length : Int))), (11, (.int .i64 t11_10))] s → c1 front_9 t11_10 = some r → Run D σ (R81 r) (.run A81_1 [.lp A81_1, .bk 0, .sq A81_7]) s) (front_19 : Int) (s : Nat → V) (hs : Facts [(1, (.int .i64 set_2)), (2, (.ref (.bx 2) 0 [] (.agg [(Enc.enc (w_1.a : List Int))]))), (4, (.int .i64 0)), (5, (.int .i64 front_19)), (9, (Enc.enc (r_3 : List Int))), (10, (.int .i64 (r_3.length : Int))), (11, (.int .i64 t11_10))] s) (h : i_net_front_j1 F set_2 w_1 r_3 t11_10 c1 front_19 = some r) : Run D σ (R81 r) (.nrm [.bk 1, .sq A81_6, .lp A81_1, .bk 0, .sq A81_7]) s := by
  unfold i_net_front_j1 at h
  obtain ⟨h1, h2, h4, h5, h9, h10, h11⟩ := hs
  refine .nbk ?_
  refine .nsq ?_
  refine run_reg ?_
  refine e_end ?_
  refine g_v1 (t := 11) (u := (.int .i64 t11_10)) (.int .i64 (w64 (t11_10 + 1))) h11 rfl rfl ?_
  refine g_v1 (t := 27) (u := (.int .i64 (w64 (t11_10 + 1)))) (.int .i64 (w64 (t11_10 + 1))) rfl rfl rfl ?_
  refine g_end ?_
  refine e_end ?_
  refine renew [(1, (.int .i64 set_2)), (2, (.ref (.bx 2) 0 [] (.agg [(Enc.enc (w_1.a : List Int))]))), (4, (.int .i64 0)), (5, (.int .i64 front_19)), (9, (Enc.enc (r_3 : List Int))), (10, (.int .i64 (r_3.length : Int))), (11, (.int .i64 (w64 (t11_10 + 1))))] ⟨h1, h2, h4, h5, h9, h10, rfl⟩ ?_
  rintro s ⟨h1, h2, h4, h5, h9, h10, h11⟩
  refine .nlp ?_
  exact Hc1 front_19 (w64 (t11_10 + 1)) _ ⟨h1, h2, h4, h5, h9, h10, h11⟩ h
def i_net_front_l1 (F : Nat) (set_2 : Int) (w_1 : (S1 (List Int))) (r_3 : (List Int))  : Nat → Int → Int → Option Int
  | 0, _, _ => none
  | k + 1, front_9, t11_10 =>
    bif decide (t11_10 < (r_3.length : Int)) then
      (idx r_3 t11_10).bind fun e_16 =>
      (idx w_1.a e_16).bind fun e_17 =>
      bif ((iandNot .i64 e_17 set_2) != 0) then
        (shlI .i64 1 e_16).bind fun q_20 =>
        i_net_front_j1 F set_2 w_1 r_3 t11_10 (i_net_front_l1 F set_2 w_1 r_3 k) (ior .i64 front_9 q_20)
      else
        i_net_front_j1 F set_2 w_1 r_3 t11_10 (i_net_front_l1 F set_2 w_1 r_3 k) front_9
    else
      some front_9
theorem t_f81_l1 (H : H81 D σ F) (set_2 : Int) (w_1 : (S1 (List Int))) (r_3 : (List Int))  : ∀ (k : Nat) (front_9 : Int) (t11_10 : Int) (s : Nat → V), Facts [(1, (.int .i64 set_2)), (2, (.ref (.bx 2) 0 [] (.agg [(Enc.enc (w_1.a : List Int))]))), (4, (.int .i64 0)), (5, (.int .i64 front_9)), (9, (Enc.enc (r_3 : List Int))), (10, (.int .i64 (r_3.length : Int))), (11, (.int .i64 t11_10))] s → i_net_front_l1 F set_2 w_1 r_3 k front_9 t11_10 = some r → Run D σ (R81 r) (.run A81_1 [.lp A81_1, .bk 0, .sq A81_7]) s := by
  intro k
  induction k with
  | zero => intro front_9 t11_10 s _ h; exact nomatch (h : (none : Option _) = some r)
  | succ k ih =>
    intro front_9 t11_10 s hs h
    rw [i_net_front_l1] at h
    obtain ⟨h1, h2, h4, h5, h9, h10, h11⟩ := hs
    refine .seq ?_
    refine run_reg ?_
    refine e_end ?_
    refine g_v2 (t1 := 11) (t2 := 10) (u1 := (.int .i64 t11_10)) (u2 := (.int .i64 (r_3.length : Int))) (.bool (decide (t11_10 < (r_3.length : Int)))) h11 h10 rfl rfl ?_
    refine g_end ?_
    refine e_end ?_
    refine renew [(1, (.int .i64 set_2)), (2, (.ref (.bx 2) 0 [] (.agg [(Enc.enc (w_1.a : List Int))]))), (4, (.int .i64 0)), (5, (.int .i64 front_9)), (9, (Enc.enc (r_3 : List Int))), (10, (.int .i64 (r_3.length : Int))), (11, (.int .i64 t11_10)), (12, (.bool (decide (t11_10 < (r_3.length : Int)))))] ⟨h1, h2, h4, h5, h9, h10, h11, rfl⟩ ?_
    rintro s ⟨h1, h2, h4, h5, h9, h10, h11, h12⟩
    refine .nsq ?_
    refine .seq ?_
    refine run_cond (t := decide (t11_10 < (r_3.length : Int))) h12 h (fun h => ?_) (fun h => ?_)
    · refine .skip ?_
      refine .nsq ?_
      refine .seq ?_
      refine .block ?_
      refine .seq ?_
      refine run_reg ?_
      refine e_end ?_
      obtain ⟨e_16, E_e_16, h⟩ := bind_some h
      refine g_v (.ref .sh 0 [] (.int .i64 e_16)) (ev_idx (t := .sh) (lo := 0) (xs := r_3) h9 h11 E_e_16 rfl rfl) ?_
      refine g_v1 (t := 13) (u := (.ref .sh 0 [] (.int .i64 e_16))) (.int .i64 e_16) rfl rfl rfl ?_
      refine g_v1 (t := 14) (u := (.int .i64 e_16)) (.int .i64 e_16) rfl rfl rfl ?_
      refine g_end ?_
      refine e_end ?_
      refine renew [(1, (.int .i64 set_2)), (2, (.ref (.bx 2) 0 [] (.agg [(Enc.enc (w_1.a : List Int))]))), (4, (.int .i64 0)), (5, (.int .i64 front_9)), (7, (.int .i64 e_16)), (9, (Enc.enc (r_3 : List Int))), (10, (.int .i64 (r_3.length : Int))), (11, (.int .i64 t11_10))] ⟨h1, h2, h4, h5, rfl, h9, h10, h11⟩ ?_
      rintro s ⟨h1, h2, h4, h5, h7, h9, h10, h11⟩
      refine .nsq ?_
      refine .seq ?_
      refine run_reg ?_
      refine e_end ?_
      refine g_v1 (t := 2) (u := (.ref (.bx 2) 0 [] (.agg [(Enc.enc (w_1.a : List Int))]))) (.ref (.bx 2) 0 [0] (Enc.enc (w_1.a : List Int))) h2 rfl rfl ?_
      refine g_v1 (t := 15) (u := (.ref (.bx 2) 0 [0] (Enc.enc (w_1.a : List Int)))) (Enc.enc (w_1.a : List Int)) rfl rfl rfl ?_
      refine g_v1 (t := 7) (u := (.int .i64 e_16)) (.int .i64 e_16) h7 rfl rfl ?_
      obtain ⟨e_17, E_e_17, h⟩ := bind_some h
      refine g_v (.ref .sh 0 [] (.int .i64 e_17)) (ev_idx (t := .sh) (lo := 0) (xs := w_1.a) rfl rfl E_e_17 rfl rfl) ?_
      refine g_v1 (t := 18) (u := (.ref .sh 0 [] (.int .i64 e_17))) (.int .i64 e_17) rfl rfl rfl ?_
      refine g_v1 (t := 1) (u := (.int .i64 set_2)) (.int .i64 set_2) h1 rfl rfl ?_
      refine g_v2 (t1 := 19) (t2 := 20) (u1 := (.int .i64 e_17)) (u2 := (.int .i64 set_2)) (.int .i64 (iandNot .i64 e_17 set_2)) rfl rfl rfl rfl ?_
      refine g_v1 (t := 21) (u := (.int .i64 (iandNot .i64 e_17 set_2))) (.bool ((iandNot .i64 e_17 set_2) != 0)) rfl rfl rfl ?_
      refine g_end ?_
      refine e_end ?_
      refine renew [(1, (.int .i64 set_2)), (2, (.ref (.bx 2) 0 [] (.agg [(Enc.enc (w_1.a : List Int))]))), (4, (.int .i64 0)), (5, (.int .i64 front_9)), (7, (.int .i64 e_16)), (9, (Enc.enc (r_3 : List Int))), (10, (.int .i64 (r_3.length : Int))), (11, (.int .i64 t11_10)), (22, (.bool ((iandNot .i64 e_17 set_2) != 0)))] ⟨h1, h2, h4, h5, h7, h9, h10, h11, rfl⟩ ?_
      rintro s ⟨h1, h2, h4, h5, h7, h9, h10, h11, h22⟩
      refine .nsq ?_
      refine run_cond (t := ((iandNot .i64 e_17 set_2) != 0)) h22 h (fun h => ?_) (fun h => ?_)
      · refine run_reg ?_
        refine e_end ?_
        refine g_v1 (t := 5) (u := (.int .i64 front_9)) (.int .i64 front_9) h5 rfl rfl ?_
        refine g_v1 (t := 7) (u := (.int .i64 e_16)) (.int .i64 e_16) h7 rfl rfl ?_
        obtain ⟨q_20, E_q_20, h⟩ := bind_some h
        refine g_v (.int .i64 q_20) (ev_shl rfl rfl E_q_20) ?_
        refine g_v2 (t1 := 23) (t2 := 25) (u1 := (.int .i64 front_9)) (u2 := (.int .i64 q_20)) (.int .i64 (ior .i64 front_9 q_20)) rfl rfl rfl rfl ?_
        refine g_v1 (t := 26) (u := (.int .i64 (ior .i64 front_9 q_20))) (.int .i64 (ior .i64 front_9 q_20)) rfl rfl rfl ?_
        refine g_end ?_
        refine e_end ?_
        refine renew [(1, (.int .i64 set_2)), (2, (.ref (.bx 2) 0 [] (.agg [(Enc.enc (w_1.a : List Int))]))), (4, (.int .i64 0)), (5, (.int .i64 (ior .i64 front_9 q_20))), (9, (Enc.enc (r_3 : List Int))), (10, (.int .i64 (r_3.length : Int))), (11, (.int .i64 t11_10))] ⟨h1, h2, h4, rfl, h9, h10, h11⟩ ?_
        rintro s ⟨h1, h2, h4, h5, h9, h10, h11⟩
        exact t_f81_j1 H set_2 w_1 r_3 t11_10 (i_net_front_l1 F set_2 w_1 r_3 k) ih (ior .i64 front_9 q_20) _ ⟨h1, h2, h4, h5, h9, h10, h11⟩ h
      · refine .skip ?_
        exact t_f81_j1 H set_2 w_1 r_3 t11_10 (i_net_front_l1 F set_2 w_1 r_3 k) ih front_9 _ ⟨h1, h2, h4, h5, h9, h10, h11⟩ h
    · refine .exit ?_
      refine .esq ?_
      refine .elp ?_
      refine .ebk ?_
      refine .nsq ?_
      refine .seq ?_
      refine run_reg ?_
      refine e_end ?_
      refine g_v1 (t := 5) (u := (.int .i64 front_9)) (.int .i64 front_9) h5 rfl rfl ?_
      refine g_v1 (t := 28) (u := (.int .i64 front_9)) (.int .i64 front_9) rfl rfl rfl ?_
      refine g_end ?_
      refine e_end ?_
      refine renew [(4, (.int .i64 front_9))] rfl ?_
      rintro s h4
      refine .nsq ?_
      refine .ret ?_
      have hr := Option.some.inj h
      subst hr
      exact rrA (res_tmp h4) rfl
def i_net_front (F : Nat) (w_1 : (S1 (List Int))) (set_2 : Int) : Option Int :=
  (i_setOf F set_2).bind fun r_3 =>
  i_net_front_l1 F set_2 w_1 r_3 F 0 0
theorem t81 (H : H81 D σ F) (w_1 : (S1 (List Int))) (set_2 : Int) (s : Nat → V) (hs : Facts [(0, (.agg [(Enc.enc (w_1.a : List Int))])), (1, (.int .i64 set_2))] s) (h : i_net_front F w_1 set_2 = some r) : Run D σ (R81 r) (.run A81 []) s := by
  unfold i_net_front at h
  obtain ⟨h0, h1⟩ := hs
  refine .seq ?_
  refine run_reg ?_
  refine e_clr ?_
  refine e_end ?_
  refine g_box (.agg [(Enc.enc (w_1.a : List Int))]) (rd_of (keep_clear (s := s) (pk := [2]) h0 rfl (map_agg (maps_cons (Enc.map_enc _ (w_1.a : List Int)) maps_nil))) rfl) (gone_clear (s := s) (pk := [2]) (t := 2) rfl) rfl ?_
  refine g_v0 (.int .i64 0) rfl rfl ?_
  refine g_end ?_
  refine e_end ?_
  refine renew [(1, (.int .i64 set_2)), (2, (.ref (.bx 2) 0 [] (.agg [(Enc.enc (w_1.a : List Int))]))), (4, (.int .i64 0))] ⟨(keep_clear (s := s) (pk := [2]) h1 rfl rfl), rfl, rfl⟩ ?_
  rintro s ⟨h1, h2, h4⟩
  refine .nsq ?_
  refine .seq ?_
  refine run_reg ?_
  refine e_end ?_
  refine g_v0 (.int .i64 0) rfl rfl ?_
  refine g_end ?_
  refine e_end ?_
  refine renew [(1, (.int .i64 set_2)), (2, (.ref (.bx 2) 0 [] (.agg [(Enc.enc (w_1.a : List Int))]))), (4, (.int .i64 0)), (5, (.int .i64 0))] ⟨h1, h2, h4, rfl⟩ ?_
  rintro s ⟨h1, h2, h4, h5⟩
  refine .nsq ?_
  refine .seq ?_
  refine .seq ?_
  refine run_reg ?_
  refine e_end ?_
  refine g_v1 (t := 1) (u := (.int .i64 set_2)) (.int .i64 set_2) h1 rfl rfl ?_
  obtain ⟨r_3, E_r_3, h⟩ := bind_some h
  refine g_call (m := 0) (al := false) (r := (Enc.enc (r_3 : (List Int)))) [Enc.enc (set_2 : Int)] (ta_cons (v := (.int .i64 set_2)) rfl rfl rfl ta_nil) (H.c121 _ _ E_r_3) H.g121 rfl rfl rfl rfl ?_
  refine g_v (.int .i64 (r_3.length : Int)) (ev_len (xs := r_3) rfl) ?_
  refine g_v0 (.int .i64 0) rfl rfl ?_
  refine g_end ?_
  refine e_end ?_
  refine renew [(1, (.int .i64 set_2)), (2, (.ref (.bx 2) 0 [] (.agg [(Enc.enc (w_1.a : List Int))]))), (4, (.int .i64 0)), (5, (.int .i64 0)), (9, (Enc.enc (r_3 : List Int))), (10, (.int .i64 (r_3.length : Int))), (11, (.int .i64 0))] ⟨h1, h2, h4, h5, rfl, rfl, rfl⟩ ?_
  rintro s ⟨h1, h2, h4, h5, h9, h10, h11⟩
  refine .nsq ?_
  refine .block ?_
  refine .loop ?_
  exact t_f81_l1 H set_2 w_1 r_3 F 0 0 _ ⟨h1, h2, h4, h5, h9, h10, h11⟩ h
end
def e81 (F : Nat) : Ent := ⟨81, da (fun (x : ((S1 (List Int)) × Int × Unit)) => i_net_front F x.1 x.2.1) (fun (r : Int) => (Enc.enc (r : Int))), 0, false, selF []⟩
theorem p81 {F : Nat} {x0 : (S1 (List Int))} {x1 : Int} {r : Int} (h : i_net_front F x0 x1 = some r) : (e81 F).den [Enc.enc x0, Enc.enc x1] = some (Enc.enc (r : Int)) := da_put (f := fun (x : ((S1 (List Int)) × Int × Unit)) => i_net_front F x.1 x.2.1) (t := fun (r : Int) => (Enc.enc (r : Int))) (x0, x1, ()) h
theorem o81 {D : Den} {σ : Sig} {F : Nat} (hF : Fits2 Try.prog D σ) (H : H81 D σ F) : (e81 F).Ok Try.prog := by
  refine ⟨fun args r h => ?_, ⟨Try.f81, Try.func81, rfl, rfl⟩⟩
  obtain ⟨⟨x0, x1, _⟩, y, rfl, hy, rfl⟩ := da_open h
  exact contract_run hF (by kernel_rfl) Try.func81 rfl c81 (show 2 ≤ Try.f81.ntmps by decide) (t81 H x0 x1 _ ⟨rfl, rfl⟩ hy)
/- math/bits.OnesCount64 -/
def A103_7 : AC := (AC.seq (AC.reg [] [(I.mk (some 32) none false (X.v (A.mov (O.t 0)))), (I.mk (some 33) none false (X.v (A.conv IntKind.i64 (O.t 32)))), (I.mk (some 34) none false (X.v (A.bin BinOp.and (O.t 33) (O.k (V.int IntKind.i64 (Int.ofNat 127)))))), (I.mk (some 2) none false (X.v (A.mov (O.t 34))))] []) AC.ret)
def A103_6 : AC := (AC.seq (AC.reg [] [(I.mk (some 28) none false (X.v (A.mov (O.t 0)))), (I.mk (some 29) none false (X.v (A.mov (O.t 0)))), (I.mk (some 30) none false (X.v (A.bin BinOp.shr (O.t 29) (O.k (V.int IntKind.u64 (Int.ofNat 32)))))), (I.mk (some 31) none false (X.v (A.bin BinOp.add (O.t 28) (O.t 30)))), (I.mk (some 0) none false (X.v (A.mov (O.t 31))))] []) A103_7)
def A103_5 : AC := (AC.seq (AC.reg [] [(I.mk (some 24) none false (X.v (A.mov (O.t 0)))), (I.mk (some 25) none false (X.v (A.mov (O.t 0)))), (I.mk (some 26) none false (X.v (A.bin BinOp.shr (O.t 25) (O.k (V.int IntKind.u64 (Int.ofNat 16)))))), (I.mk (some 27) none false (X.v (A.bin BinOp.add (O.t 24) (O.t 26)))), (I.mk (some 0) none false (X.v (A.mov (O.t 27))))] []) A103_6)
def A103_4 : AC := (AC.seq (AC.reg [] [(I.mk (some 20) none false (X.v (A.mov (O.t 0)))), (I.mk (some 21) none false (X.v (A.mov (O.t 0)))), (I.mk (some 22) none false (X.v (A.bin BinOp.shr (O.t 21) (O.k (V.int IntKind.u64 (Int.ofNat 8)))))), (I.mk (some 23) none false (X.v (A.bin BinOp.add (O.t 20) (O.t 22)))), (I.mk (some 0) none false (X.v (A.mov (O.t 23))))] []) A103_5)
def A103_3 : AC := (AC.seq (AC.reg [] [(I.mk (some 15) none false (X.v (A.mov (O.t 0)))), (I.mk (some 16) none false (X.v (A.bin BinOp.shr (O.t 15) (O.k (V.int IntKind.u64 (Int.ofNat 4)))))), (I.mk (some 17) none false (X.v (A.mov (O.t 0)))), (I.mk (some 18) none false (X.v (A.bin BinOp.add (O.t 16) (O.t 17)))), (I.mk (some 19) none false (X.v (A.bin BinOp.and (O.t 18) (O.k (V.int IntKind.u64 (Int.ofNat 1085102592571150095)))))), (I.mk (some 0) none false (X.v (A.mov (O.t 19))))] []) A103_4)
def A103_2 : AC := (AC.seq (AC.reg [] [(I.mk (some 9) none false (X.v (A.mov (O.t 0)))), (I.mk (some 10) none false (X.v (A.bin BinOp.shr (O.t 9) (O.k (V.int IntKind.u64 (Int.ofNat 2)))))), (I.mk (some 11) none false (X.v (A.bin BinOp.and (O.t 10) (O.k (V.int IntKind.u64 (Int.ofNat 3689348814741910323)))))), (I.mk (some 12) none false (X.v (A.mov (O.t 0)))), (I.mk (some 13) none false (X.v (A.bin BinOp.and (O.t 12) (O.k (V.int IntKind.u64 (Int.ofNat 3689348814741910323)))))), (I.mk (some 14) none false (X.v (A.bin BinOp.add (O.t 11) (O.t 13)))), (I.mk (some 0) none false (X.v (A.mov (O.t 14))))] []) A103_3)
def A103_1 : AC := (AC.seq (AC.reg [] [(I.mk (some 3) none false (X.v (A.mov (O.t 0)))), (I.mk (some 4) none false (X.v (A.bin BinOp.shr (O.t 3) (O.k (V.int IntKind.u64 (Int.ofNat 1)))))), (I.mk (some 5) none false (X.v (A.bin BinOp.and (O.t 4) (O.k (V.int IntKind.u64 (Int.ofNat 6148914691236517205)))))), (I.mk (some 6) none false (X.v (A.mov (O.t 0)))), (I.mk (some 7) none false (X.v (A.bin BinOp.and (O.t 6) (O.k (V.int IntKind.u64 (Int.ofNat 6148914691236517205)))))), (I.mk (some 8) none false (X.v (A.bin BinOp.add (O.t 5) (O.t 7)))), (I.mk (some 0) none false (X.v (A.mov (O.t 8))))] []) A103_2)
def A103 : AC := (AC.seq (AC.reg [] [(I.mk (some 2) none false (X.v (A.mov (O.k (V.int IntKind.i64 (Int.ofNat 0))))))] []) A103_1)
def an103 : List An := []
theorem c103 : cC Try.prog Try.f103.ntmps an103 (Try.f103.body.getD .skip) = some A103 := by kernel_rfl
structure H103 (D : Den) (σ : Sig) (F : Nat) : Prop where
  mk ::
abbrev R103 (r : Int) : (Nat → V) → Prop := RR Try.prog [.tmp 2] 0 false (Enc.enc (r : Int))
section
variable {D : Den} {σ : Sig} {F : Nat} {r : Int}
def bits_OnesCount64 (F : Nat) (x_1 : (Kd .u64)) : Option Int :=
  (shrI .u64 x_1.v 1).bind fun q_2 =>
  (shrI .u64 (IntKind.u64.wrap ((iand .u64 q_2 6148914691236517205) + (iand .u64 x_1.v 6148914691236517205))) 2).bind fun q_3 =>
  (shrI .u64 (IntKind.u64.wrap ((iand .u64 q_3 3689348814741910323) + (iand .u64 (IntKind.u64.wrap ((iand .u64 q_2 6148914691236517205) + (iand .u64 x_1.v 6148914691236517205))) 3689348814741910323))) 4).bind fun q_4 =>
  (shrI .u64 (iand .u64 (IntKind.u64.wrap (q_4 + (IntKind.u64.wrap ((iand .u64 q_3 3689348814741910323) + (iand .u64 (IntKind.u64.wrap ((iand .u64 q_2 6148914691236517205) + (iand .u64 x_1.v 6148914691236517205))) 3689348814741910323))))) 1085102592571150095) 8).bind fun q_5 =>
  (shrI .u64 (IntKind.u64.wrap ((iand .u64 (IntKind.u64.wrap (q_4 + (IntKind.u64.wrap ((iand .u64 q_3 3689348814741910323) + (iand .u64 (IntKind.u64.wrap ((iand .u64 q_2 6148914691236517205) + (iand .u64 x_1.v 6148914691236517205))) 3689348814741910323))))) 1085102592571150095) + q_5)) 16).bind fun q_6 =>
  (shrI .u64 (IntKind.u64.wrap ((IntKind.u64.wrap ((iand .u64 (IntKind.u64.wrap (q_4 + (IntKind.u64.wrap ((iand .u64 q_3 3689348814741910323) + (iand .u64 (IntKind.u64.wrap ((iand .u64 q_2 6148914691236517205) + (iand .u64 x_1.v 6148914691236517205))) 3689348814741910323))))) 1085102592571150095) + q_5)) + q_6)) 32).bind fun q_7 =>
  some (iand .i64 (w64 (IntKind.u64.wrap ((IntKind.u64.wrap ((IntKind.u64.wrap ((iand .u64 (IntKind.u64.wrap (q_4 + (IntKind.u64.wrap ((iand .u64 q_3 3689348814741910323) + (iand .u64 (IntKind.u64.wrap ((iand .u64 q_2 6148914691236517205) + (iand .u64 x_1.v 6148914691236517205))) 3689348814741910323))))) 1085102592571150095) + q_5)) + q_6)) + q_7))) 127)
theorem t103 (H : H103 D σ F) (x_1 : (Kd .u64)) (s : Nat → V) (hs : Facts [(0, (.int .u64 x_1.v))] s) (h : bits_OnesCount64 F x_1 = some r) : Run D σ (R103 r) (.run A103 []) s := by
  unfold bits_OnesCount64 at h
  have h0 := hs
  refine .seq ?_
  refine run_reg ?_
  refine e_end ?_
  refine g_v0 (.int .i64 0) rfl rfl ?_
  refine g_end ?_
  refine e_end ?_
  refine renew [(0, (.int .u64 x_1.v)), (2, (.int .i64 0))] ⟨h0, rfl⟩ ?_
  rintro s ⟨h0, h2⟩
  refine .nsq ?_
  refine .seq ?_
  refine run_reg ?_
  refine e_end ?_
  refine g_v1 (t := 0) (u := (.int .u64 x_1.v)) (.int .u64 x_1.v) h0 rfl rfl ?_
  obtain ⟨q_2, E_q_2, h⟩ := bind_some h
  refine g_v (.int .u64 q_2) (ev_shr rfl rfl E_q_2) ?_
  refine g_v1 (t := 4) (u := (.int .u64 q_2)) (.int .u64 (iand .u64 q_2 6148914691236517205)) rfl rfl rfl ?_
  refine g_v1 (t := 0) (u := (.int .u64 x_1.v)) (.int .u64 x_1.v) h0 rfl rfl ?_
  refine g_v1 (t := 6) (u := (.int .u64 x_1.v)) (.int .u64 (iand .u64 x_1.v 6148914691236517205)) rfl rfl rfl ?_
  refine g_v2 (t1 := 5) (t2 := 7) (u1 := (.int .u64 (iand .u64 q_2 6148914691236517205))) (u2 := (.int .u64 (iand .u64 x_1.v 6148914691236517205))) (.int .u64 (IntKind.u64.wrap ((iand .u64 q_2 6148914691236517205) + (iand .u64 x_1.v 6148914691236517205)))) rfl rfl rfl rfl ?_
  refine g_v1 (t := 8) (u := (.int .u64 (IntKind.u64.wrap ((iand .u64 q_2 6148914691236517205) + (iand .u64 x_1.v 6148914691236517205))))) (.int .u64 (IntKind.u64.wrap ((iand .u64 q_2 6148914691236517205) + (iand .u64 x_1.v 6148914691236517205)))) rfl rfl rfl ?_
  refine g_end ?_
  refine e_end ?_
  refine renew [(0, (.int .u64 (IntKind.u64.wrap ((iand .u64 q_2 6148914691236517205) + (iand .u64 x_1.v 6148914691236517205))))), (2, (.int .i64 0))] ⟨rfl, h2⟩ ?_
  rintro s ⟨h0, h2⟩
  refine .nsq ?_
  refine .seq ?_
  refine run_reg ?_
  refine e_end ?_
  refine g_v1 (t := 0) (u := (.int .u64 (IntKind.u64.wrap ((iand .u64 q_2 6148914691236517205) + (iand .u64 x_1.v 6148914691236517205))))) (.int .u64 (IntKind.u64.wrap ((iand .u64 q_2 6148914691236517205) + (iand .u64 x_1.v 6148914691236517205)))) h0 rfl rfl ?_
  obtain ⟨q_3, E_q_3, h⟩ := bind_some h
  refine g_v (.int .u64 q_3) (ev_shr rfl rfl E_q_3) ?_
  refine g_v1 (t := 10) (u := (.int .u64 q_3)) (.int .u64 (iand .u64 q_3 3689348814741910323)) rfl rfl rfl ?_
  refine g_v1 (t := 0) (u := (.int .u64 (IntKind.u64.wrap ((iand .u64 q_2 6148914691236517205) + (iand .u64 x_1.v 6148914691236517205))))) (.int .u64 (IntKind.u64.wrap ((iand .u64 q_2 6148914691236517205) + (iand .u64 x_1.v 6148914691236517205)))) h0 rfl rfl ?_
  refine g_v1 (t := 12) (u := (.int .u64 (IntKind.u64.wrap ((iand .u64 q_2 6148914691236517205) + (iand .u64 x_1.v 6148914691236517205))))) (.int .u64 (iand .u64 (IntKind.u64.wrap ((iand .u64 q_2 6148914691236517205) + (iand .u64 x_1.v 6148914691236517205))) 3689348814741910323)) rfl rfl rfl ?_
  refine g_v2 (t1 := 11) (t2 := 13) (u1 := (.int .u64 (iand .u64 q_3 3689348814741910323))) (u2 := (.int .u64 (iand .u64 (IntKind.u64.wrap ((iand .u64 q_2 6148914691236517205) + (iand .u64 x_1.v 6148914691236517205))) 3689348814741910323))) (.int .u64 (IntKind.u64.wrap ((iand .u64 q_3 3689348814741910323) + (iand .u64 (IntKind.u64.wrap ((iand .u64 q_2 6148914691236517205) + (iand .u64 x_1.v 6148914691236517205))) 3689348814741910323)))) rfl rfl rfl rfl ?_
  refine g_v1 (t := 14) (u := (.int .u64 (IntKind.u64.wrap ((iand .u64 q_3 3689348814741910323) + (iand .u64 (IntKind.u64.wrap ((iand .u64 q_2 6148914691236517205) + (iand .u64 x_1.v 6148914691236517205))) 3689348814741910323))))) (.int .u64 (IntKind.u64.wrap ((iand .u64 q_3 3689348814741910323) + (iand .u64 (IntKind.u64.wrap ((iand .u64 q_2 6148914691236517205) + (iand .u64 x_1.v 6148914691236517205))) 3689348814741910323)))) rfl rfl rfl ?_
  refine g_end ?_
  refine e_end ?_
  refine renew [(0, (.int .u64 (IntKind.u64.wrap ((iand .u64 q_3 3689348814741910323) + (iand .u64 (IntKind.u64.wrap ((iand .u64 q_2 6148914691236517205) + (iand .u64 x_1.v 6148914691236517205))) 3689348814741910323))))), (2, (.int .i64 0))] ⟨rfl, h2⟩ ?_
  rintro s ⟨h0, h2⟩
  refine .nsq ?_
  refine .seq ?_
  refine run_reg ?_
  refine e_end ?_
  refine g_v1 (t := 0) (u := (.int .u64 (IntKind.u64.wrap ((iand .u64 q_3 3689348814741910323) + (iand .u64 (IntKind.u64.wrap ((iand .u64 q_2 6148914691236517205) + (iand .u64 x_1.v 6148914691236517205))) 3689348814741910323))))) (.int .u64 (IntKind.u64.wrap ((iand .u64 q_3 3689348814741910323) + (iand .u64 (IntKind.u64.wrap ((iand .u64 q_2 6148914691236517205) + (iand .u64 x_1.v 6148914691236517205))) 3689348814741910323)))) h0 rfl rfl ?_
  obtain ⟨q_4, E_q_4, h⟩ := bind_some h
  refine g_v (.int .u64 q_4) (ev_shr rfl rfl E_q_4) ?_
  refine g_v1 (t := 0) (u := (.int .u64 (IntKind.u64.wrap ((iand .u64 q_3 3689348814741910323) + (iand .u64 (IntKind.u64.wrap ((iand .u64 q_2 6148914691236517205) + (iand .u64 x_1.v 6148914691236517205))) 3689348814741910323))))) (.int .u64 (IntKind.u64.wrap ((iand .u64 q_3 3689348814741910323) + (iand .u64 (IntKind.u64.wrap ((iand .u64 q_2 6148914691236517205) + (iand .u64 x_1.v 6148914691236517205))) 3689348814741910323)))) h0 rfl rfl ?_
  refine g_v2 (t1 := 16) (t2 := 17) (u1 := (.int .u64 q_4)) (u2 := (.int .u64 (IntKind.u64.wrap ((iand .u64 q_3 3689348814741910323) + (iand .u64 (IntKind.u64.wrap ((iand .u64 q_2 6148914691236517205) + (iand .u64 x_1.v 6148914691236517205))) 3689348814741910323))))) (.int .u64 (IntKind.u64.wrap (q_4 + (IntKind.u64.wrap ((iand .u64 q_3 3689348814741910323) + (iand .u64 (IntKind.u64.wrap ((iand .u64 q_2 6148914691236517205) + (iand .u64 x_1.v 6148914691236517205))) 3689348814741910323)))))) rfl rfl rfl rfl ?_
  refine g_v1 (t := 18) (u := (.int .u64 (IntKind.u64.wrap (q_4 + (IntKind.u64.wrap ((iand .u64 q_3 3689348814741910323) + (iand .u64 (IntKind.u64.wrap ((iand .u64 q_2 6148914691236517205) + (iand .u64 x_1.v 6148914691236517205))) 3689348814741910323))))))) (.int .u64 (iand .u64 (IntKind.u64.wrap (q_4 + (IntKind.u64.wrap ((iand .u64 q_3 3689348814741910323) + (iand .u64 (IntKind.u64.wrap ((iand .u64 q_2 6148914691236517205) + (iand .u64 x_1.v 6148914691236517205))) 3689348814741910323))))) 1085102592571150095)) rfl rfl rfl ?_
  refine g_v1 (t := 19) (u := (.int .u64 (iand .u64 (IntKind.u64.wrap (q_4 + (IntKind.u64.wrap ((iand .u64 q_3 3689348814741910323) + (iand .u64 (IntKind.u64.wrap ((iand .u64 q_2 6148914691236517205) + (iand .u64 x_1.v 6148914691236517205))) 3689348814741910323))))) 1085102592571150095))) (.int .u64 (iand .u64 (IntKind.u64.wrap (q_4 + (IntKind.u64.wrap ((iand .u64 q_3 3689348814741910323) + (iand .u64 (IntKind.u64.wrap ((iand .u64 q_2 6148914691236517205) + (iand .u64 x_1.v 6148914691236517205))) 3689348814741910323))))) 1085102592571150095)) rfl rfl rfl ?_
  refine g_end ?_
  refine e_end ?_
  refine renew [(0, (.int .u64 (iand .u64 (IntKind.u64.wrap (q_4 + (IntKind.u64.wrap ((iand .u64 q_3 3689348814741910323) + (iand .u64 (IntKind.u64.wrap ((iand .u64 q_2 6148914691236517205) + (iand .u64 x_1.v 6148914691236517205))) 3689348814741910323))))) 1085102592571150095))), (2, (.int .i64 0))] ⟨rfl, h2⟩ ?_
  rintro s ⟨h0, h2⟩
  refine .nsq ?_
  refine .seq ?_
  refine run_reg ?_
  refine e_end ?_
  refine g_v1 (t := 0) (u := (.int .u64 (iand .u64 (IntKind.u64.wrap (q_4 + (IntKind.u64.wrap ((iand .u64 q_3 3689348814741910323) + (iand .u64 (IntKind.u64.wrap ((iand .u64 q_2 6148914691236517205) + (iand .u64 x_1.v 6148914691236517205))) 3689348814741910323))))) 1085102592571150095))) (.int .u64 (iand .u64 (IntKind.u64.wrap (q_4 + (IntKind.u64.wrap ((iand .u64 q_3 3689348814741910323) + (iand .u64 (IntKind.u64.wrap ((iand .u64 q_2 6148914691236517205) + (iand .u64 x_1.v 6148914691236517205))) 3689348814741910323))))) 1085102592571150095)) h0 rfl rfl ?_
  refine g_v1 (t := 0) (u := (.int .u64 (iand .u64 (IntKind.u64.wrap (q_4 + (IntKind.u64.wrap ((iand .u64 q_3 3689348814741910323) + (iand .u64 (IntKind.u64.wrap ((iand .u64 q_2 6148914691236517205) + (iand .u64 x_1.v 6148914691236517205))) 3689348814741910323))))) 1085102592571150095))) (.int .u64 (iand .u64 (IntKind.u64.wrap (q_4 + (IntKind.u64.wrap ((iand .u64 q_3 3689348814741910323) + (iand .u64 (IntKind.u64.wrap ((iand .u64 q_2 6148914691236517205) + (iand .u64 x_1.v 6148914691236517205))) 3689348814741910323))))) 1085102592571150095)) h0 rfl rfl ?_
  obtain ⟨q_5, E_q_5, h⟩ := bind_some h
  refine g_v (.int .u64 q_5) (ev_shr rfl rfl E_q_5) ?_
  refine g_v2 (t1 := 20) (t2 := 22) (u1 := (.int .u64 (iand .u64 (IntKind.u64.wrap (q_4 + (IntKind.u64.wrap ((iand .u64 q_3 3689348814741910323) + (iand .u64 (IntKind.u64.wrap ((iand .u64 q_2 6148914691236517205) + (iand .u64 x_1.v 6148914691236517205))) 3689348814741910323))))) 1085102592571150095))) (u2 := (.int .u64 q_5)) (.int .u64 (IntKind.u64.wrap ((iand .u64 (IntKind.u64.wrap (q_4 + (IntKind.u64.wrap ((iand .u64 q_3 3689348814741910323) + (iand .u64 (IntKind.u64.wrap ((iand .u64 q_2 6148914691236517205) + (iand .u64 x_1.v 6148914691236517205))) 3689348814741910323))))) 1085102592571150095) + q_5))) rfl rfl rfl rfl ?_
  refine g_v1 (t := 23) (u := (.int .u64 (IntKind.u64.wrap ((iand .u64 (IntKind.u64.wrap (q_4 + (IntKind.u64.wrap ((iand .u64 q_3 3689348814741910323) + (iand .u64 (IntKind.u64.wrap ((iand .u64 q_2 6148914691236517205) + (iand .u64 x_1.v 6148914691236517205))) 3689348814741910323))))) 1085102592571150095) + q_5)))) (.int .u64 (IntKind.u64.wrap ((iand .u64 (IntKind.u64.wrap (q_4 + (IntKind.u64.wrap ((iand .u64 q_3 3689348814741910323) + (iand .u64 (IntKind.u64.wrap ((iand .u64 q_2 6148914691236517205) + (iand .u64 x_1.v 6148914691236517205))) 3689348814741910323))))) 1085102592571150095) + q_5))) rfl rfl rfl ?_
  refine g_end ?_
  refine e_end ?_
  refine renew [(0, (.int .u64 (IntKind.u64.wrap ((iand .u64 (IntKind.u64.wrap (q_4 + (IntKind.u64.wrap ((iand .u64 q_3 3689348814741910323) + (iand .u64 (IntKind.u64.wrap ((iand .u64 q_2 6148914691236517205) + (iand .u64 x_1.v 6148914691236517205))) 3689348814741910323))))) 1085102592571150095) + q_5)))), (2, (.int .i64 0))] ⟨rfl, h2⟩ ?_
  rintro s ⟨h0, h2⟩
  refine .nsq ?_
  refine .seq ?_
  refine run_reg ?_
  refine e_end ?_
  refine g_v1 (t := 0) (u := (.int .u64 (IntKind.u64.wrap ((iand .u64 (IntKind.u64.wrap (q_4 + (IntKind.u64.wrap ((iand .u64 q_3 3689348814741910323) + (iand .u64 (IntKind.u64.wrap ((iand .u64 q_2 6148914691236517205) + (iand .u64 x_1.v 6148914691236517205))) 3689348814741910323))))) 1085102592571150095) + q_5)))) (.int .u64 (IntKind.u64.wrap ((iand .u64 (IntKind.u64.wrap (q_4 + (IntKind.u64.wrap ((iand .u64 q_3 3689348814741910323) + (iand .u64 (IntKind.u64.wrap ((iand .u64 q_2 6148914691236517205) + (iand .u64 x_1.v 6148914691236517205))) 3689348814741910323))))) 1085102592571150095) + q_5))) h0 rfl rfl ?_
  refine g_v1 (t := 0) (u := (.int .u64 (IntKind.u64.wrap ((iand .u64 (IntKind.u64.wrap (q_4 + (IntKind.u64.wrap ((iand .u64 q_3 3689348814741910323) + (iand .u64 (IntKind.u64.wrap ((iand .u64 q_2 6148914691236517205) + (iand .u64 x_1.v 6148914691236517205))) 3689348814741910323))))) 1085102592571150095) + q_5)))) (.int .u64 (IntKind.u64.wrap ((iand .u64 (IntKind.u64.wrap (q_4 + (IntKind.u64.wrap ((iand .u64 q_3 3689348814741910323) + (iand .u64 (IntKind.u64.wrap ((iand .u64 q_2 6148914691236517205) + (iand .u64 x_1.v 6148914691236517205))) 3689348814741910323))))) 1085102592571150095) + q_5))) h0 rfl rfl ?_
  obtain ⟨q_6, E_q_6, h⟩ := bind_some h
  refine g_v (.int .u64 q_6) (ev_shr rfl rfl E_q_6) ?_
  refine g_v2 (t1 := 24) (t2 := 26) (u1 := (.int .u64 (IntKind.u64.wrap ((iand .u64 (IntKind.u64.wrap (q_4 + (IntKind.u64.wrap ((iand .u64 q_3 3689348814741910323) + (iand .u64 (IntKind.u64.wrap ((iand .u64 q_2 6148914691236517205) + (iand .u64 x_1.v 6148914691236517205))) 3689348814741910323))))) 1085102592571150095) + q_5)))) (u2 := (.int .u64 q_6)) (.int .u64 (IntKind.u64.wrap ((IntKind.u64.wrap ((iand .u64 (IntKind.u64.wrap (q_4 + (IntKind.u64.wrap ((iand .u64 q_3 3689348814741910323) + (iand .u64 (IntKind.u64.wrap ((iand .u64 q_2 6148914691236517205) + (iand .u64 x_1.v 6148914691236517205))) 3689348814741910323))))) 1085102592571150095) + q_5)) + q_6))) rfl rfl rfl rfl ?_
  refine g_v1 (t := 27) (u := (.int .u64 (IntKind.u64.wrap ((IntKind.u64.wrap ((iand .u64 (IntKind.u64.wrap (q_4 + (IntKind.u64.wrap ((iand .u64 q_3 3689348814741910323) + (iand .u64 (IntKind.u64.wrap ((iand .u64 q_2 6148914691236517205) + (iand .u64 x_1.v 6148914691236517205))) 3689348814741910323))))) 1085102592571150095) + q_5)) + q_6)))) (.int .u64 (IntKind.u64.wrap ((IntKind.u64.wrap ((iand .u64 (IntKind.u64.wrap (q_4 + (IntKind.u64.wrap ((iand .u64 q_3 3689348814741910323) + (iand .u64 (IntKind.u64.wrap ((iand .u64 q_2 6148914691236517205) + (iand .u64 x_1.v 6148914691236517205))) 3689348814741910323))))) 1085102592571150095) + q_5)) + q_6))) rfl rfl rfl ?_
  refine g_end ?_
  refine e_end ?_
  refine renew [(0, (.int .u64 (IntKind.u64.wrap ((IntKind.u64.wrap ((iand .u64 (IntKind.u64.wrap (q_4 + (IntKind.u64.wrap ((iand .u64 q_3 3689348814741910323) + (iand .u64 (IntKind.u64.wrap ((iand .u64 q_2 6148914691236517205) + (iand .u64 x_1.v 6148914691236517205))) 3689348814741910323))))) 1085102592571150095) + q_5)) + q_6)))), (2, (.int .i64 0))] ⟨rfl, h2⟩ ?_
  rintro s ⟨h0, h2⟩
  refine .nsq ?_
  refine .seq ?_
  refine run_reg ?_
  refine e_end ?_
  refine g_v1 (t := 0) (u := (.int .u64 (IntKind.u64.wrap ((IntKind.u64.wrap ((iand .u64 (IntKind.u64.wrap (q_4 + (IntKind.u64.wrap ((iand .u64 q_3 3689348814741910323) + (iand .u64 (IntKind.u64.wrap ((iand .u64 q_2 6148914691236517205) + (iand .u64 x_1.v 6148914691236517205))) 3689348814741910323))))) 1085102592571150095) + q_5)) + q_6)))) (.int .u64 (IntKind.u64.wrap ((IntKind.u64.wrap ((iand .u64 (IntKind.u64.wrap (q_4 + (IntKind.u64.wrap ((iand .u64 q_3 3689348814741910323) + (iand .u64 (IntKind.u64.wrap ((iand .u64 q_2 6148914691236517205) + (iand .u64 x_1.v 6148914691236517205))) 3689348814741910323))))) 1085102592571150095) + q_5)) + q_6))) h0 rfl rfl ?_
  refine g_v1 (t := 0) (u := (.int .u64 (IntKind.u64.wrap ((IntKind.u64.wrap ((iand .u64 (IntKind.u64.wrap (q_4 + (IntKind.u64.wrap ((iand .u64 q_3 3689348814741910323) + (iand .u64 (IntKind.u64.wrap ((iand .u64 q_2 6148914691236517205) + (iand .u64 x_1.v 6148914691236517205))) 3689348814741910323))))) 1085102592571150095) + q_5)) + q_6)))) (.int .u64 (IntKind.u64.wrap ((IntKind.u64.wrap ((iand .u64 (IntKind.u64.wrap (q_4 + (IntKind.u64.wrap ((iand .u64 q_3 3689348814741910323) + (iand .u64 (IntKind.u64.wrap ((iand .u64 q_2 6148914691236517205) + (iand .u64 x_1.v 6148914691236517205))) 3689348814741910323))))) 1085102592571150095) + q_5)) + q_6))) h0 rfl rfl ?_
  obtain ⟨q_7, E_q_7, h⟩ := bind_some h
  refine g_v (.int .u64 q_7) (ev_shr rfl rfl E_q_7) ?_
  refine g_v2 (t1 := 28) (t2 := 30) (u1 := (.int .u64 (IntKind.u64.wrap ((IntKind.u64.wrap ((iand .u64 (IntKind.u64.wrap (q_4 + (IntKind.u64.wrap ((iand .u64 q_3 3689348814741910323) + (iand .u64 (IntKind.u64.wrap ((iand .u64 q_2 6148914691236517205) + (iand .u64 x_1.v 6148914691236517205))) 3689348814741910323))))) 1085102592571150095) + q_5)) + q_6)))) (u2 := (.int .u64 q_7)) (.int .u64 (IntKind.u64.wrap ((IntKind.u64.wrap ((IntKind.u64.wrap ((iand .u64 (IntKind.u64.wrap (q_4 + (IntKind.u64.wrap ((iand .u64 q_3 3689348814741910323) + (iand .u64 (IntKind.u64.wrap ((iand .u64 q_2 6148914691236517205) + (iand .u64 x_1.v 6148914691236517205))) 3689348814741910323))))) 1085102592571150095) + q_5)) + q_6)) + q_7))) rfl rfl rfl rfl ?_
  refine g_v1 (t := 31) (u := (.int .u64 (IntKind.u64.wrap ((IntKind.u64.wrap ((IntKind.u64.wrap ((iand .u64 (IntKind.u64.wrap (q_4 + (IntKind.u64.wrap ((iand .u64 q_3 3689348814741910323) + (iand .u64 (IntKind.u64.wrap ((iand .u64 q_2 6148914691236517205) + (iand .u64 x_1.v 6148914691236517205))) 3689348814741910323))))) 1085102592571150095) + q_5)) + q_6)) + q_7)))) (.int .u64 (IntKind.u64.wrap ((IntKind.u64.wrap ((IntKind.u64.wrap ((iand .u64 (IntKind.u64.wrap (q_4 + (IntKind.u64.wrap ((iand .u64 q_3 3689348814741910323) + (iand .u64 (IntKind.u64.wrap ((iand .u64 q_2 6148914691236517205) + (iand .u64 x_1.v 6148914691236517205))) 3689348814741910323))))) 1085102592571150095) + q_5)) + q_6)) + q_7))) rfl rfl rfl ?_
  refine g_end ?_
  refine e_end ?_
  refine renew [(0, (.int .u64 (IntKind.u64.wrap ((IntKind.u64.wrap ((IntKind.u64.wrap ((iand .u64 (IntKind.u64.wrap (q_4 + (IntKind.u64.wrap ((iand .u64 q_3 3689348814741910323) + (iand .u64 (IntKind.u64.wrap ((iand .u64 q_2 6148914691236517205) + (iand .u64 x_1.v 6148914691236517205))) 3689348814741910323))))) 1085102592571150095) + q_5)) + q_6)) + q_7)))), (2, (.int .i64 0))] ⟨rfl, h2⟩ ?_
  rintro s ⟨h0, h2⟩
  refine .nsq ?_
  refine .seq ?_
  refine run_reg ?_
  refine e_end ?_
  refine g_v1 (t := 0) (u := (.int .u64 (IntKind.u64.wrap ((IntKind.u64.wrap ((IntKind.u64.wrap ((iand .u64 (IntKind.u64.wrap (q_4 + (IntKind.u64.wrap ((iand .u64 q_3 3689348814741910323) + (iand .u64 (IntKind.u64.wrap ((iand .u64 q_2 6148914691236517205) + (iand .u64 x_1.v 6148914691236517205))) 3689348814741910323))))) 1085102592571150095) + q_5)) + q_6)) + q_7)))) (.int .u64 (IntKind.u64.wrap ((IntKind.u64.wrap ((IntKind.u64.wrap ((iand .u64 (IntKind.u64.wrap (q_4 + (IntKind.u64.wrap ((iand .u64 q_3 3689348814741910323) + (iand .u64 (IntKind.u64.wrap ((iand .u64 q_2 6148914691236517205) + (iand .u64 x_1.v 6148914691236517205))) 3689348814741910323))))) 1085102592571150095) + q_5)) + q_6)) + q_7))) h0 rfl rfl ?_
  refine g_v1 (t := 32) (u := (.int .u64 (IntKind.u64.wrap ((IntKind.u64.wrap ((IntKind.u64.wrap ((iand .u64 (IntKind.u64.wrap (q_4 + (IntKind.u64.wrap ((iand .u64 q_3 3689348814741910323) + (iand .u64 (IntKind.u64.wrap ((iand .u64 q_2 6148914691236517205) + (iand .u64 x_1.v 6148914691236517205))) 3689348814741910323))))) 1085102592571150095) + q_5)) + q_6)) + q_7)))) (.int .i64 (w64 (IntKind.u64.wrap ((IntKind.u64.wrap ((IntKind.u64.wrap ((iand .u64 (IntKind.u64.wrap (q_4 + (IntKind.u64.wrap ((iand .u64 q_3 3689348814741910323) + (iand .u64 (IntKind.u64.wrap ((iand .u64 q_2 6148914691236517205) + (iand .u64 x_1.v 6148914691236517205))) 3689348814741910323))))) 1085102592571150095) + q_5)) + q_6)) + q_7)))) rfl rfl rfl ?_
  refine g_v1 (t := 33) (u := (.int .i64 (w64 (IntKind.u64.wrap ((IntKind.u64.wrap ((IntKind.u64.wrap ((iand .u64 (IntKind.u64.wrap (q_4 + (IntKind.u64.wrap ((iand .u64 q_3 3689348814741910323) + (iand .u64 (IntKind.u64.wrap ((iand .u64 q_2 6148914691236517205) + (iand .u64 x_1.v 6148914691236517205))) 3689348814741910323))))) 1085102592571150095) + q_5)) + q_6)) + q_7))))) (.int .i64 (iand .i64 (w64 (IntKind.u64.wrap ((IntKind.u64.wrap ((IntKind.u64.wrap ((iand .u64 (IntKind.u64.wrap (q_4 + (IntKind.u64.wrap ((iand .u64 q_3 3689348814741910323) + (iand .u64 (IntKind.u64.wrap ((iand .u64 q_2 6148914691236517205) + (iand .u64 x_1.v 6148914691236517205))) 3689348814741910323))))) 1085102592571150095) + q_5)) + q_6)) + q_7))) 127)) rfl rfl rfl ?_
  refine g_v1 (t := 34) (u := (.int .i64 (iand .i64 (w64 (IntKind.u64.wrap ((IntKind.u64.wrap ((IntKind.u64.wrap ((iand .u64 (IntKind.u64.wrap (q_4 + (IntKind.u64.wrap ((iand .u64 q_3 3689348814741910323) + (iand .u64 (IntKind.u64.wrap ((iand .u64 q_2 6148914691236517205) + (iand .u64 x_1.v 6148914691236517205))) 3689348814741910323))))) 1085102592571150095) + q_5)) + q_6)) + q_7))) 127))) (.int .i64 (iand .i64 (w64 (IntKind.u64.wrap ((IntKind.u64.wrap ((IntKind.u64.wrap ((iand .u64 (IntKind.u64.wrap (q_4 + (IntKind.u64.wrap ((iand .u64 q_3 3689348814741910323) + (iand .u64 (IntKind.u64.wrap ((iand .u64 q_2 6148914691236517205) + (iand .u64 x_1.v 6148914691236517205))) 3689348814741910323))))) 1085102592571150095) + q_5)) + q_6)) + q_7))) 127)) rfl rfl rfl ?_
  refine g_end ?_
  refine e_end ?_
  refine renew [(2, (.int .i64 (iand .i64 (w64 (IntKind.u64.wrap ((IntKind.u64.wrap ((IntKind.u64.wrap ((iand .u64 (IntKind.u64.wrap (q_4 + (IntKind.u64.wrap ((iand .u64 q_3 3689348814741910323) + (iand .u64 (IntKind.u64.wrap ((iand .u64 q_2 6148914691236517205) + (iand .u64 x_1.v 6148914691236517205))) 3689348814741910323))))) 1085102592571150095) + q_5)) + q_6)) + q_7))) 127)))] rfl ?_
  rintro s h2
  refine .nsq ?_
  refine .ret ?_
  have hr := Option.some.inj h
  subst hr
  exact rrA (res_tmp h2) rfl
end
def e103 (F : Nat) : Ent := ⟨103, da (fun (x : ((Kd .u64) × Unit)) => bits_OnesCount64 F x.1) (fun (r : Int) => (Enc.enc (r : Int))), 0, false, selF []⟩
theorem p103 {F : Nat} {x0 : (Kd .u64)} {r : Int} (h : bits_OnesCount64 F x0 = some r) : (e103 F).den [Enc.enc x0] = some (Enc.enc (r : Int)) := da_put (f := fun (x : ((Kd .u64) × Unit)) => bits_OnesCount64 F x.1) (t := fun (r : Int) => (Enc.enc (r : Int))) (x0, ()) h
theorem o103 {D : Den} {σ : Sig} {F : Nat} (hF : Fits2 Try.prog D σ) (H : H103 D σ F) : (e103 F).Ok Try.prog := by
  refine ⟨fun args r h => ?_, ⟨Try.f103, Try.func103, rfl, rfl⟩⟩
  obtain ⟨⟨x0, _⟩, y, rfl, hy, rfl⟩ := da_open h
  exact contract_run hF (by kernel_rfl) Try.func103 rfl c103 (show 1 ≤ Try.f103.ntmps by decide) (t103 H x0 _ rfl hy)
/- math/bits.OnesCount -/
def A52_2 : AC := (AC.seq (AC.reg [] [(I.mk (some 6) none false (X.v (A.mov (O.t 0)))), (I.mk (some 7) none false (X.call (O.k (V.fn 103 [] [])) [(O.t 6)])), (I.mk (some 2) none false (X.v (A.mov (O.t 7))))] []) AC.ret)
def A52_1 : AC := (AC.seq (AC.cond (O.k (V.bool false)) (AC.seq (AC.reg [] [(I.mk (some 3) none false (X.v (A.mov (O.t 0)))), (I.mk (some 4) none false (X.v (A.conv IntKind.u32 (O.t 3)))), (I.mk (some 5) none false (X.call (O.k (V.fn 102 [] [])) [(O.t 4)])), (I.mk (some 2) none false (X.v (A.mov (O.t 5))))] []) AC.ret) AC.skip) A52_2)
def A52 : AC := (AC.seq (AC.reg [] [(I.mk (some 2) none false (X.v (A.mov (O.k (V.int IntKind.i64 (Int.ofNat 0))))))] []) A52_1)
def an52 : List An := []
theorem c52 : cC Try.prog Try.f52.ntmps an52 (Try.f52.body.getD .skip) = some A52 := by kernel_rfl
structure H52 (D : Den) (σ : Sig) (F : Nat) : Prop where
  c103 : ∀ (x0 : (Kd .u64)) r, bits_OnesCount64 F x0 = some r → D 103 [Enc.enc x0] = some (Enc.enc (r : Int))
  g103 : σ 103 = some (0, false)
abbrev R52 (r : Int) : (Nat → V) → Prop := RR Try.prog [.tmp 2] 0 false (Enc.enc (r : Int))
section
variable {D : Den} {σ : Sig} {F : Nat} {r : Int}
def bits_OnesCount (F : Nat) (x_1 : (Kd .u64)) : Option Int :=
  (bits_OnesCount64 F (Kd.mk x_1.v : Kd .u64)).bind fun r_2 =>
  some r_2
theorem t52 (H : H52 D σ F) (x_1 : (Kd .u64)) (s : Nat → V) (hs : Facts [(0, (.int .u64 x_1.v))] s) (h : bits_OnesCount F x_1 = some r) : Run D σ (R52 r) (.run A52 []) s := by
  unfold bits_OnesCount at h
  have h0 := hs
  refine .seq ?_
  refine run_reg ?_
  refine e_end ?_
  refine g_v0 (.int .i64 0) rfl rfl ?_
  refine g_end ?_
  refine e_end ?_
  refine renew [(0, (.int .u64 x_1.v)), (2, (.int .i64 0))] ⟨h0, rfl⟩ ?_
  rintro s ⟨h0, h2⟩
  refine .nsq ?_
  refine .seq ?_
  refine run_condF rfl ?_
  refine .skip ?_
  refine .nsq ?_
  refine .seq ?_
  refine run_reg ?_
  refine e_end ?_
  refine g_v1 (t := 0) (u := (.int .u64 x_1.v)) (.int .u64 x_1.v) h0 rfl rfl ?_
  obtain ⟨r_2, E_r_2, h⟩ := bind_some h
  refine g_call (m := 0) (al := false) (r := (Enc.enc (r_2 : Int))) [Enc.enc ((Kd.mk x_1.v : Kd .u64) : (Kd .u64))] (ta_cons (v := (.int .u64 x_1.v)) rfl rfl rfl ta_nil) (H.c103 _ _ E_r_2) H.g103 rfl rfl rfl rfl ?_
  refine g_v1 (t := 7) (u := (.int .i64 r_2)) (.int .i64 r_2) rfl rfl rfl ?_
  refine g_end ?_
  refine e_end ?_
  refine renew [(2, (.int .i64 r_2))] rfl ?_
  rintro s h2
  refine .nsq ?_
  refine .ret ?_
  have hr := Option.some.inj h
  subst hr
  exact rrA (res_tmp h2) rfl
end
def e52 (F : Nat) : Ent := ⟨52, da (fun (x : ((Kd .u64) × Unit)) => bits_OnesCount F x.1) (fun (r : Int) => (Enc.enc (r : Int))), 0, false, selF []⟩
theorem p52 {F : Nat} {x0 : (Kd .u64)} {r : Int} (h : bits_OnesCount F x0 = some r) : (e52 F).den [Enc.enc x0] = some (Enc.enc (r : Int)) := da_put (f := fun (x : ((Kd .u64) × Unit)) => bits_OnesCount F x.1) (t := fun (r : Int) => (Enc.enc (r : Int))) (x0, ()) h
theorem o52 {D : Den} {σ : Sig} {F : Nat} (hF : Fits2 Try.prog D σ) (H : H52 D σ F) : (e52 F).Ok Try.prog := by
  refine ⟨fun args r h => ?_, ⟨Try.f52, Try.func52, rfl, rfl⟩⟩
  obtain ⟨⟨x0, _⟩, y, rfl, hy, rfl⟩ := da_open h
  exact contract_run hF (by kernel_rfl) Try.func52 rfl c52 (show 1 ≤ Try.f52.ntmps by decide) (t52 H x0 _ rfl hy)
/- (loop.example/g01109/impl.net).frontSize -/
def A107_1 : AC := (AC.seq (AC.reg [] [(I.mk (some 7) none false (X.v (A.load (Sh.ag [Sh.p]) (O.t 3)))), (I.mk (some 8) none false (X.v (A.mov (O.t 1)))), (I.mk (some 9) none false (X.v (A.mov (O.t 2)))), (I.mk (some 10) none false (X.v (A.bin BinOp.shl (O.k (V.int IntKind.i64 (Int.ofNat 1))) (O.t 9)))), (I.mk (some 11) none false (X.v (A.bin BinOp.or (O.t 8) (O.t 10)))), (I.mk (some 12) none false (X.call (O.k (V.fn 81 [] [])) [(O.t 7), (O.t 11)])), (I.mk (some 13) none false (X.v (A.conv IntKind.u64 (O.t 12)))), (I.mk (some 14) none false (X.call (O.k (V.fn 52 [] [])) [(O.t 13)])), (I.mk (some 6) none false (X.v (A.mov (O.t 14))))] []) AC.ret)
def A107 : AC := (AC.seq (AC.reg [.clr [3]] [(I.mk (some 3) none false (X.box (O.t 0))), (I.mk (some 6) none false (X.v (A.mov (O.k (V.int IntKind.i64 (Int.ofNat 0))))))] []) A107_1)
def an107 : List An := [{ id := 0, pre := [.clr [3]], ep := [], lin := [], sp := [] }]
theorem c107 : cC Try.prog Try.f107.ntmps an107 (Try.f107.body.getD .skip) = some A107 := by kernel_rfl
structure H107 (D : Den) (σ : Sig) (F : Nat) : Prop where
  c81 : ∀ (x0 : (S1 (List Int))) (x1 : Int) r, i_net_front F x0 x1 = some r → D 81 [Enc.enc x0, Enc.enc x1] = some (Enc.enc (r : Int))
  g81 : σ 81 = some (0, false)
  c52 : ∀ (x0 : (Kd .u64)) r, bits_OnesCount F x0 = some r → D 52 [Enc.enc x0] = some (Enc.enc (r : Int))
  g52 : σ 52 = some (0, false)
abbrev R107 (r : Int) : (Nat → V) → Prop := RR Try.prog [.tmp 6] 0 false (Enc.enc (r : Int))
section
variable {D : Den} {σ : Sig} {F : Nat} {r : Int}
def i_net_frontSize (F : Nat) (w_1 : (S1 (List Int))) (set_2 : Int) (x_3 : Int) : Option Int :=
  (shlI .i64 1 x_3).bind fun q_4 =>
  (i_net_front F w_1 (ior .i64 set_2 q_4)).bind fun r_5 =>
  (bits_OnesCount F (Kd.mk (IntKind.u64.wrap r_5) : Kd .u64)).bind fun r_6 =>
  some r_6
theorem t107 (H : H107 D σ F) (w_1 : (S1 (List Int))) (set_2 : Int) (x_3 : Int) (s : Nat → V) (hs : Facts [(0, (.agg [(Enc.enc (w_1.a : List Int))])), (1, (.int .i64 set_2)), (2, (.int .i64 x_3))] s) (h : i_net_frontSize F w_1 set_2 x_3 = some r) : Run D σ (R107 r) (.run A107 []) s := by
  unfold i_net_frontSize at h
  obtain ⟨h0, h1, h2⟩ := hs
  refine .seq ?_
  refine run_reg ?_
  refine e_clr ?_
  refine e_end ?_
  refine g_box (.agg [(Enc.enc (w_1.a : List Int))]) (rd_of (keep_clear (s := s) (pk := [3]) h0 rfl (map_agg (maps_cons (Enc.map_enc _ (w_1.a : List Int)) maps_nil))) rfl) (gone_clear (s := s) (pk := [3]) (t := 3) rfl) rfl ?_
  refine g_v0 (.int .i64 0) rfl rfl ?_
  refine g_end ?_
  refine e_end ?_
  refine renew [(1, (.int .i64 set_2)), (2, (.int .i64 x_3)), (3, (.ref (.bx 3) 0 [] (.agg [(Enc.enc (w_1.a : List Int))]))), (6, (.int .i64 0))] ⟨(keep_clear (s := s) (pk := [3]) h1 rfl rfl), (keep_clear (s := s) (pk := [3]) h2 rfl rfl), rfl, rfl⟩ ?_
  rintro s ⟨h1, h2, h3, h6⟩
  refine .nsq ?_
  refine .seq ?_
  refine run_reg ?_
  refine e_end ?_
  refine g_v1 (t := 3) (u := (.ref (.bx 3) 0 [] (.agg [(Enc.enc (w_1.a : List Int))]))) (.agg [(Enc.enc (w_1.a : List Int))]) h3 rfl rfl ?_
  refine g_v1 (t := 1) (u := (.int .i64 set_2)) (.int .i64 set_2) h1 rfl rfl ?_
  refine g_v1 (t := 2) (u := (.int .i64 x_3)) (.int .i64 x_3) h2 rfl rfl ?_
  obtain ⟨q_4, E_q_4, h⟩ := bind_some h
  refine g_v (.int .i64 q_4) (ev_shl rfl rfl E_q_4) ?_
  refine g_v2 (t1 := 8) (t2 := 10) (u1 := (.int .i64 set_2)) (u2 := (.int .i64 q_4)) (.int .i64 (ior .i64 set_2 q_4)) rfl rfl rfl rfl ?_
  obtain ⟨r_5, E_r_5, h⟩ := bind_some h
  refine g_call (m := 0) (al := false) (r := (Enc.enc (r_5 : Int))) [Enc.enc (w_1 : (S1 (List Int))), Enc.enc (ior .i64 set_2 q_4 : Int)] (ta_cons (v := (.agg [(Enc.enc (w_1.a : List Int))])) rfl rfl (Enc.erase_enc (w_1 : (S1 (List Int)))) (ta_cons (v := (.int .i64 (ior .i64 set_2 q_4))) rfl rfl rfl ta_nil)) (H.c81 _ _ _ E_r_5) H.g81 rfl rfl rfl rfl ?_
  refine g_v1 (t := 12) (u := (.int .i64 r_5)) (.int .u64 (IntKind.u64.wrap r_5)) rfl rfl rfl ?_
  obtain ⟨r_6, E_r_6, h⟩ := bind_some h
  refine g_call (m := 0) (al := false) (r := (Enc.enc (r_6 : Int))) [Enc.enc ((Kd.mk (IntKind.u64.wrap r_5) : Kd .u64) : (Kd .u64))] (ta_cons (v := (.int .u64 (IntKind.u64.wrap r_5))) rfl rfl rfl ta_nil) (H.c52 _ _ E_r_6) H.g52 rfl rfl rfl rfl ?_
  refine g_v1 (t := 14) (u := (.int .i64 r_6)) (.int .i64 r_6) rfl rfl rfl ?_
  refine g_end ?_
  refine e_end ?_
  refine renew [(6, (.int .i64 r_6))] rfl ?_
  rintro s h6
  refine .nsq ?_
  refine .ret ?_
  have hr := Option.some.inj h
  subst hr
  exact rrA (res_tmp h6) rfl
end
def e107 (F : Nat) : Ent := ⟨107, da (fun (x : ((S1 (List Int)) × Int × Int × Unit)) => i_net_frontSize F x.1 x.2.1 x.2.2.1) (fun (r : Int) => (Enc.enc (r : Int))), 0, false, selF []⟩
theorem p107 {F : Nat} {x0 : (S1 (List Int))} {x1 : Int} {x2 : Int} {r : Int} (h : i_net_frontSize F x0 x1 x2 = some r) : (e107 F).den [Enc.enc x0, Enc.enc x1, Enc.enc x2] = some (Enc.enc (r : Int)) := da_put (f := fun (x : ((S1 (List Int)) × Int × Int × Unit)) => i_net_frontSize F x.1 x.2.1 x.2.2.1) (t := fun (r : Int) => (Enc.enc (r : Int))) (x0, x1, x2, ()) h
theorem o107 {D : Den} {σ : Sig} {F : Nat} (hF : Fits2 Try.prog D σ) (H : H107 D σ F) : (e107 F).Ok Try.prog := by
  refine ⟨fun args r h => ?_, ⟨Try.f107, Try.func107, rfl, rfl⟩⟩
  obtain ⟨⟨x0, x1, x2, _⟩, y, rfl, hy, rfl⟩ := da_open h
  exact contract_run hF (by kernel_rfl) Try.func107 rfl c107 (show 3 ≤ Try.f107.ntmps by decide) (t107 H x0 x1 x2 _ ⟨rfl, rfl, rfl⟩ hy)
end Go.Zq
