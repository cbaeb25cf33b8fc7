/- Functions of the program as typed functions, and that the machine runs as they say (part 3). No further condition. -/
import Derived.Test.YtodihaaheneikaaK2
import Derived.Test.YtodihaaheneikaaProg
import Derived.Test.YtodihaaheneikaaChecked
import Derived.KernelRfl
import Derived.Test.YtodihaaheneikaaG2
set_option linter.unusedVariables false
set_option linter.unusedSimpArgs false
/- Functions of the program, as typed functions, and that the machine runs as they say. -/
namespace Go.Zq
open Go.Proofs
/- loop.example/g01109/impl.isPathDecomposition -/
def A54_12 : AC := (AC.cond (O.t 35) (AC.reg [] [(I.mk (some 36) none false (X.v (A.mov (O.t 9)))), (I.mk (some 6) none false (X.v (A.mov (O.t 36))))] []) AC.skip)
def A54_14 : AC := (AC.reg [] [(I.mk (some 38) none false (X.v (A.mov (O.t 8)))), (I.mk (some 39) none false (X.v (A.bin BinOp.add (O.t 38) (O.k (V.int IntKind.i64 (Int.ofNat 1)))))), (I.mk (some 8) none false (X.v (A.mov (O.t 39))))] [])
def A54_13 : AC := (AC.seq (AC.reg [] [(I.mk (some 37) none false (X.v (A.mov (O.t 9)))), (I.mk (some 7) none false (X.v (A.mov (O.t 37))))] []) A54_14)
def A54_11 : AC := (AC.cond (O.t 33) (AC.seq (AC.seq (AC.reg [] [(I.mk (some 34) none false (X.v (A.mov (O.t 8)))), (I.mk (some 35) none false (X.v (A.bin BinOp.eql (O.t 34) (O.k (V.int IntKind.i64 (Int.ofNat 0))))))] []) A54_12) A54_13) AC.skip)
def A54_10 : AC := (AC.seq (AC.reg [] [(I.mk (some 31) none false (X.v (A.mov (O.t 10)))), (I.mk (some 32) none false (X.v (A.mov (O.t 5)))), (I.mk (some 33) none false (X.call (O.k (V.fn 85 [] [])) [(O.t 31), (O.t 32)]))] []) A54_11)
def A54_15 : AC := (AC.reg [] [(I.mk (some 40) none false (X.v (A.bin BinOp.add (O.t 26) (O.k (V.int IntKind.i64 (Int.ofNat 1)))))), (I.mk (some 26) none false (X.v (A.mov (O.t 40))))] [])
def A54_9 : AC := (AC.seq (AC.block 3 (AC.seq (AC.reg [] [(I.mk (some 28) none false (X.v (A.mov (O.t 26)))), (I.mk (some 29) none false (X.v (A.idx (O.t 24) (O.t 26) 1))), (I.mk (some 30) none false (X.v (A.load Sh.p (O.t 29)))), (I.mk (some 9) none false (X.v (A.mov (O.t 28)))), (I.mk (some 10) none false (X.v (A.mov (O.t 30))))] []) A54_10)) A54_15)
def A54_8 : AC := (AC.seq (AC.cond (O.t 27) AC.skip (AC.exit 2)) A54_9)
def A54_7 : AC := (AC.seq (AC.reg [] [(I.mk (some 27) none false (X.v (A.bin BinOp.lss (O.t 26) (O.t 25))))] []) A54_8)
def A54_6 : AC := (AC.block 2 (AC.loop A54_7))
def A54_17 : AC := (AC.cond (O.t 50) (AC.seq (AC.reg [] [(I.mk (some 4) none false (X.v (A.mov (O.k (V.bool false)))))] []) AC.ret) AC.skip)
def A54_16 : AC := (AC.seq (AC.reg [] [(I.mk (some 41) none false (X.v (A.mov (O.t 8)))), (I.mk (some 42) none false (X.v (A.bin BinOp.eql (O.t 41) (O.k (V.int IntKind.i64 (Int.ofNat 0)))))), (I.mk (some 43) none false (X.v (A.mov (O.t 42)))), (I.mk (some 44) (some (43, false)) false (X.v (A.mov (O.t 7)))), (I.mk (some 45) (some (43, false)) false (X.v (A.mov (O.t 6)))), (I.mk (some 46) (some (43, false)) false (X.v (A.bin BinOp.sub (O.t 44) (O.t 45)))), (I.mk (some 47) (some (43, false)) false (X.v (A.bin BinOp.add (O.t 46) (O.k (V.int IntKind.i64 (Int.ofNat 1)))))), (I.mk (some 48) (some (43, false)) false (X.v (A.mov (O.t 8)))), (I.mk (some 49) (some (43, false)) false (X.v (A.bin BinOp.neq (O.t 47) (O.t 48)))), (I.mk (some 50) none false (X.v (A.pick (O.t 43) (O.k (V.bool true)) (O.t 49))))] []) A54_17)
def A54_5 : AC := (AC.seq (AC.seq (AC.reg [] [(I.mk (some 24) none false (X.v (A.load Sh.p (O.t 3)))), (I.mk (some 25) none false (X.v (A.len (O.t 24)))), (I.mk (some 26) none false (X.v (A.mov (O.k (V.int IntKind.i64 (Int.ofNat 0))))))] []) A54_6) A54_16)
def A54_4 : AC := (AC.seq (AC.reg [] [(I.mk (some 6) none false (X.v (A.mov (O.k (V.int IntKind.i64 (Int.negSucc 0)))))), (I.mk (some 7) none false (X.v (A.mov (O.k (V.int IntKind.i64 (Int.negSucc 0)))))), (I.mk (some 8) none false (X.v (A.mov (O.k (V.int IntKind.i64 (Int.ofNat 0))))))] []) A54_5)
def A54_18 : AC := (AC.reg [] [(I.mk (some 51) none false (X.v (A.bin BinOp.add (O.t 21) (O.k (V.int IntKind.i64 (Int.ofNat 1)))))), (I.mk (some 21) none false (X.v (A.mov (O.t 51))))] [])
def A54_3 : AC := (AC.seq (AC.block 1 (AC.seq (AC.reg [] [(I.mk (some 23) none false (X.v (A.mov (O.t 21)))), (I.mk (some 5) none false (X.v (A.mov (O.t 23))))] []) A54_4)) A54_18)
def A54_2 : AC := (AC.seq (AC.cond (O.t 22) AC.skip (AC.exit 0)) A54_3)
def A54_1 : AC := (AC.seq (AC.reg [] [(I.mk (some 22) none false (X.v (A.bin BinOp.lss (O.t 21) (O.t 20))))] []) A54_2)
def A54_19 : AC := (AC.seq (AC.reg [] [(I.mk (some 52) none false (X.v (A.fld (O.t 2) 1 1))), (I.mk (some 53) none false (X.v (A.load Sh.p (O.t 52)))), (I.mk (some 54) none false (X.v (A.fn 87 [] [(O.t 3)]))), (I.mk (some 55) none false (X.call (O.k (V.fn 86 [] [])) [(O.t 53), (O.t 54)])), (I.mk (some 56) none false (X.v (A.un UnOp.not (O.t 55)))), (I.mk (some 4) none false (X.v (A.mov (O.t 56))))] []) AC.ret)
def A54_20 : AC := (AC.cond (O.t 18) (AC.seq (AC.reg [] [(I.mk (some 4) none false (X.v (A.mov (O.k (V.bool false)))))] []) AC.ret) AC.skip)
def A54_22 : AC := (AC.block 0 (AC.loop A54_1))
def A54_21 : AC := (AC.seq (AC.seq (AC.reg [] [(I.mk (some 19) none false (X.v (A.fld (O.t 2) 0 0))), (I.mk (some 20) none false (X.v (A.load Sh.s (O.t 19)))), (I.mk (some 21) none false (X.v (A.mov (O.k (V.int IntKind.i64 (Int.ofNat 0))))))] []) A54_22) A54_19)
def A54_23 : AC := (AC.seq (AC.seq (AC.reg [] [(I.mk (some 11) none false (X.v (A.load Sh.p (O.t 3)))), (I.mk (some 12) none false (X.v (A.len (O.t 11)))), (I.mk (some 13) none false (X.v (A.bin BinOp.gtr (O.t 12) (O.k (V.int IntKind.i64 (Int.ofNat 16)))))), (I.mk (some 14) none false (X.v (A.mov (O.t 13)))), (I.mk (some 15) (some (14, false)) false (X.v (A.load Sh.p (O.t 3)))), (I.mk (some 16) (some (14, false)) false (X.v (A.fn 83 [] [(O.t 2)]))), (I.mk (some 17) (some (14, false)) false (X.call (O.k (V.fn 82 [] [])) [(O.t 15), (O.t 16)])), (I.mk (some 18) none false (X.v (A.pick (O.t 14) (O.k (V.bool true)) (O.t 17))))] []) A54_20) A54_21)
def A54 : AC := (AC.seq (AC.reg [.clr [2, 3]] [(I.mk (some 2) none false (X.box (O.t 0))), (I.mk (some 3) none false (X.box (O.t 1))), (I.mk (some 4) none false (X.v (A.mov (O.k (V.bool false)))))] []) A54_23)
def an54 : List An := [{ id := 0, pre := [.clr [2, 3]], ep := [], lin := [], sp := [] }]
theorem c54 : cC Try.prog Try.f54.ntmps an54 (Try.f54.body.getD .skip) = some A54 := by kernel_rfl
structure H54 (D : Den) (σ : Sig) (F : Nat) : Prop where
  c82s1 : ∀ (x0 : (List (List Int))) (x1 : (Cl 83 Unit ((Rf (Int × (List (Int × Int)))) × Unit))) r, slices_ContainsFunc_int_int_of_i_isPathDecomposition_1 F x0 x1 = some r → D 82 [Enc.enc x0, Arg.arg x1] = some (Enc.enc (r : Bool))
  g82s1 : σ 82 = some (0, false)
  c85 : ∀ (x0 : (List Int)) (x1 : Int) r, slices_Contains F x0 x1 = some r → D 85 [Enc.enc x0, Enc.enc x1] = some (Enc.enc (r : Bool))
  g85 : σ 85 = some (0, false)
  c86s1 : ∀ (x0 : (List (Int × Int))) (x1 : (Cl 87 Unit ((Rf (List (List Int))) × Unit))) r, slices_ContainsFunc_2_int_2_int_of_i_isPathDecomposition_2 F x0 x1 = some r → D 86 [Enc.enc x0, Arg.arg x1] = some (Enc.enc (r : Bool))
  g86s1 : σ 86 = some (0, false)
abbrev R54 (r : Bool) : (Nat → V) → Prop := RR Try.prog [.tmp 4] 0 false (Enc.enc (r : Bool))
section
variable {D : Den} {σ : Sig} {F : Nat} {r : Bool}
def i_isPathDecomposition_j1 (F : Nat) (g_1 : (Int × (List (Int × Int)))) (bags_2 : (List (List Int))) (t21_31 : Int) (t26_68 : Int) (c1 : Int → Option Bool) (c4 : Int → Int → Int → Int → Option Bool) (first_79 : Int) (last_80 : Int) (count_81 : Int) : Option Bool :=
  c4 first_79 last_80 count_81 (w64 (t26_68 + 1))
theorem t_f54_j1 (H : H54 D σ F) (g_1 : (Int × (List (Int × Int)))) (bags_2 : (List (List Int))) (t21_31 : Int) (t26_68 : Int) (c1 : Int → Option Bool) (Hc1 : ∀ (t21_31 : Int) (s : Nat → V), Facts [(2, (.ref (.bx 2) 0 [] (.agg [(.int .i64 g_1.1), (Enc.enc (g_1.2 : List (Int × Int)))]))), (3, (.ref (.bx 3) 0 [] (Enc.enc (bags_2 : List (List Int))))), (4, (.bool false)), (20, (.int .i64 g_1.1)), (21, (.int .i64 t21_31))] s → c1 t21_31 = some r → Run D σ (R54 r) (.run A54_1 [.lp A54_1, .bk 0, .sq A54_19]) s) (c4 : Int → Int → Int → Int → Option Bool) (Hc4 : ∀ (first_65 : Int) (last_66 : Int) (count_67 : Int) (t26_68 : Int) (s : Nat → V), Facts [(2, (.ref (.bx 2) 0 [] (.agg [(.int .i64 g_1.1), (Enc.enc (g_1.2 : List (Int × Int)))]))), (3, (.ref (.bx 3) 0 [] (Enc.enc (bags_2 : List (List Int))))), (4, (.bool false)), (5, (.int .i64 t21_31)), (6, (.int .i64 first_65)), (7, (.int .i64 last_66)), (8, (.int .i64 count_67)), (20, (.int .i64 g_1.1)), (21, (.int .i64 t21_31)), (24, (Enc.enc (bags_2 : List (List Int)))), (25, (.int .i64 (bags_2.length : Int))), (26, (.int .i64 t26_68))] s → c4 first_65 last_66 count_67 t26_68 = some r → Run D σ (R54 r) (.run A54_7 [.lp A54_7, .bk 2, .sq A54_16, .bk 1, .sq A54_18, .lp A54_1, .bk 0, .sq A54_19]) s) (first_79 : Int) (last_80 : Int) (count_81 : Int) (s : Nat → V) (hs : Facts [(2, (.ref (.bx 2) 0 [] (.agg [(.int .i64 g_1.1), (Enc.enc (g_1.2 : List (Int × Int)))]))), (3, (.ref (.bx 3) 0 [] (Enc.enc (bags_2 : List (List Int))))), (4, (.bool false)), (5, (.int .i64 t21_31)), (6, (.int .i64 first_79)), (7, (.int .i64 last_80)), (8, (.int .i64 count_81)), (20, (.int .i64 g_1.1)), (21, (.int .i64 t21_31)), (24, (Enc.enc (bags_2 : List (List Int)))), (25, (.int .i64 (bags_2.length : Int))), (26, (.int .i64 t26_68))] s) (h : i_isPathDecomposition_j1 F g_1 bags_2 t21_31 t26_68 c1 c4 first_79 last_80 count_81 = some r) : Run D σ (R54 r) (.nrm [.bk 3, .sq A54_15, .lp A54_7, .bk 2, .sq A54_16, .bk 1, .sq A54_18, .lp A54_1, .bk 0, .sq A54_19]) s := by
  unfold i_isPathDecomposition_j1 at h
  obtain ⟨h2, h3, h4, h5, h6, h7, h8, h20, h21, h24, h25, h26⟩ := hs
  refine .nbk ?_
  refine .nsq ?_
  refine run_reg ?_
  refine e_end ?_
  refine g_v1 (t := 26) (u := (.int .i64 t26_68)) (.int .i64 (w64 (t26_68 + 1))) h26 rfl rfl ?_
  refine g_v1 (t := 40) (u := (.int .i64 (w64 (t26_68 + 1)))) (.int .i64 (w64 (t26_68 + 1))) rfl rfl rfl ?_
  refine g_end ?_
  refine e_end ?_
  refine renew [(2, (.ref (.bx 2) 0 [] (.agg [(.int .i64 g_1.1), (Enc.enc (g_1.2 : List (Int × Int)))]))), (3, (.ref (.bx 3) 0 [] (Enc.enc (bags_2 : List (List Int))))), (4, (.bool false)), (5, (.int .i64 t21_31)), (6, (.int .i64 first_79)), (7, (.int .i64 last_80)), (8, (.int .i64 count_81)), (20, (.int .i64 g_1.1)), (21, (.int .i64 t21_31)), (24, (Enc.enc (bags_2 : List (List Int)))), (25, (.int .i64 (bags_2.length : Int))), (26, (.int .i64 (w64 (t26_68 + 1))))] ⟨h2, h3, h4, h5, h6, h7, h8, h20, h21, h24, h25, rfl⟩ ?_
  rintro s ⟨h2, h3, h4, h5, h6, h7, h8, h20, h21, h24, h25, h26⟩
  refine .nlp ?_
  exact Hc4 first_79 last_80 count_81 (w64 (t26_68 + 1)) _ ⟨h2, h3, h4, h5, h6, h7, h8, h20, h21, h24, h25, h26⟩ h
def i_isPathDecomposition_j2 (F : Nat) (g_1 : (Int × (List (Int × Int)))) (bags_2 : (List (List Int))) (t21_31 : Int) (last_66 : Int) (count_67 : Int) (t26_68 : Int) (c1 : Int → Option Bool) (c4 : Int → Int → Int → Int → Option Bool) (first_82 : Int) : Option Bool :=
  i_isPathDecomposition_j1 F g_1 bags_2 t21_31 t26_68 c1 c4 first_82 t26_68 (w64 (count_67 + 1))
theorem t_f54_j2 (H : H54 D σ F) (g_1 : (Int × (List (Int × Int)))) (bags_2 : (List (List Int))) (t21_31 : Int) (last_66 : Int) (count_67 : Int) (t26_68 : Int) (c1 : Int → Option Bool) (Hc1 : ∀ (t21_31 : Int) (s : Nat → V), Facts [(2, (.ref (.bx 2) 0 [] (.agg [(.int .i64 g_1.1), (Enc.enc (g_1.2 : List (Int × Int)))]))), (3, (.ref (.bx 3) 0 [] (Enc.enc (bags_2 : List (List Int))))), (4, (.bool false)), (20, (.int .i64 g_1.1)), (21, (.int .i64 t21_31))] s → c1 t21_31 = some r → Run D σ (R54 r) (.run A54_1 [.lp A54_1, .bk 0, .sq A54_19]) s) (c4 : Int → Int → Int → Int → Option Bool) (Hc4 : ∀ (first_65 : Int) (last_66 : Int) (count_67 : Int) (t26_68 : Int) (s : Nat → V), Facts [(2, (.ref (.bx 2) 0 [] (.agg [(.int .i64 g_1.1), (Enc.enc (g_1.2 : List (Int × Int)))]))), (3, (.ref (.bx 3) 0 [] (Enc.enc (bags_2 : List (List Int))))), (4, (.bool false)), (5, (.int .i64 t21_31)), (6, (.int .i64 first_65)), (7, (.int .i64 last_66)), (8, (.int .i64 count_67)), (20, (.int .i64 g_1.1)), (21, (.int .i64 t21_31)), (24, (Enc.enc (bags_2 : List (List Int)))), (25, (.int .i64 (bags_2.length : Int))), (26, (.int .i64 t26_68))] s → c4 first_65 last_66 count_67 t26_68 = some r → Run D σ (R54 r) (.run A54_7 [.lp A54_7, .bk 2, .sq A54_16, .bk 1, .sq A54_18, .lp A54_1, .bk 0, .sq A54_19]) s) (first_82 : Int) (s : Nat → V) (hs : Facts [(2, (.ref (.bx 2) 0 [] (.agg [(.int .i64 g_1.1), (Enc.enc (g_1.2 : List (Int × Int)))]))), (3, (.ref (.bx 3) 0 [] (Enc.enc (bags_2 : List (List Int))))), (4, (.bool false)), (5, (.int .i64 t21_31)), (6, (.int .i64 first_82)), (7, (.int .i64 last_66)), (8, (.int .i64 count_67)), (9, (.int .i64 t26_68)), (20, (.int .i64 g_1.1)), (21, (.int .i64 t21_31)), (24, (Enc.enc (bags_2 : List (List Int)))), (25, (.int .i64 (bags_2.length : Int))), (26, (.int .i64 t26_68))] s) (h : i_isPathDecomposition_j2 F g_1 bags_2 t21_31 last_66 count_67 t26_68 c1 c4 first_82 = some r) : Run D σ (R54 r) (.nrm [.sq A54_13, .bk 3, .sq A54_15, .lp A54_7, .bk 2, .sq A54_16, .bk 1, .sq A54_18, .lp A54_1, .bk 0, .sq A54_19]) s := by
  unfold i_isPathDecomposition_j2 at h
  obtain ⟨h2, h3, h4, h5, h6, h7, h8, h9, h20, h21, h24, h25, h26⟩ := hs
  refine .nsq ?_
  refine .seq ?_
  refine run_reg ?_
  refine e_end ?_
  refine g_v1 (t := 9) (u := (.int .i64 t26_68)) (.int .i64 t26_68) h9 rfl rfl ?_
  refine g_v1 (t := 37) (u := (.int .i64 t26_68)) (.int .i64 t26_68) rfl rfl rfl ?_
  refine g_end ?_
  refine e_end ?_
  refine renew [(2, (.ref (.bx 2) 0 [] (.agg [(.int .i64 g_1.1), (Enc.enc (g_1.2 : List (Int × Int)))]))), (3, (.ref (.bx 3) 0 [] (Enc.enc (bags_2 : List (List Int))))), (4, (.bool false)), (5, (.int .i64 t21_31)), (6, (.int .i64 first_82)), (7, (.int .i64 t26_68)), (8, (.int .i64 count_67)), (20, (.int .i64 g_1.1)), (21, (.int .i64 t21_31)), (24, (Enc.enc (bags_2 : List (List Int)))), (25, (.int .i64 (bags_2.length : Int))), (26, (.int .i64 t26_68))] ⟨h2, h3, h4, h5, h6, rfl, h8, h20, h21, h24, h25, h26⟩ ?_
  rintro s ⟨h2, h3, h4, h5, h6, h7, h8, h20, h21, h24, h25, h26⟩
  refine .nsq ?_
  refine run_reg ?_
  refine e_end ?_
  refine g_v1 (t := 8) (u := (.int .i64 count_67)) (.int .i64 count_67) h8 rfl rfl ?_
  refine g_v1 (t := 38) (u := (.int .i64 count_67)) (.int .i64 (w64 (count_67 + 1))) rfl rfl rfl ?_
  refine g_v1 (t := 39) (u := (.int .i64 (w64 (count_67 + 1)))) (.int .i64 (w64 (count_67 + 1))) rfl rfl rfl ?_
  refine g_end ?_
  refine e_end ?_
  refine renew [(2, (.ref (.bx 2) 0 [] (.agg [(.int .i64 g_1.1), (Enc.enc (g_1.2 : List (Int × Int)))]))), (3, (.ref (.bx 3) 0 [] (Enc.enc (bags_2 : List (List Int))))), (4, (.bool false)), (5, (.int .i64 t21_31)), (6, (.int .i64 first_82)), (7, (.int .i64 t26_68)), (8, (.int .i64 (w64 (count_67 + 1)))), (20, (.int .i64 g_1.1)), (21, (.int .i64 t21_31)), (24, (Enc.enc (bags_2 : List (List Int)))), (25, (.int .i64 (bags_2.length : Int))), (26, (.int .i64 t26_68))] ⟨h2, h3, h4, h5, h6, h7, rfl, h20, h21, h24, h25, h26⟩ ?_
  rintro s ⟨h2, h3, h4, h5, h6, h7, h8, h20, h21, h24, h25, h26⟩
  exact t_f54_j1 H g_1 bags_2 t21_31 t26_68 c1 Hc1 c4 Hc4 first_82 t26_68 (w64 (count_67 + 1)) _ ⟨h2, h3, h4, h5, h6, h7, h8, h20, h21, h24, h25, h26⟩ h
def i_isPathDecomposition_j3 (F : Nat) (g_1 : (Int × (List (Int × Int)))) (bags_2 : (List (List Int))) (t21_31 : Int) (c1 : Int → Option Bool) (t50_83 : Bool) : Option Bool :=
  bif t50_83 then
    some false
  else
    c1 (w64 (t21_31 + 1))
theorem t_f54_j3 (H : H54 D σ F) (g_1 : (Int × (List (Int × Int)))) (bags_2 : (List (List Int))) (t21_31 : Int) (c1 : Int → Option Bool) (Hc1 : ∀ (t21_31 : Int) (s : Nat → V), Facts [(2, (.ref (.bx 2) 0 [] (.agg [(.int .i64 g_1.1), (Enc.enc (g_1.2 : List (Int × Int)))]))), (3, (.ref (.bx 3) 0 [] (Enc.enc (bags_2 : List (List Int))))), (4, (.bool false)), (20, (.int .i64 g_1.1)), (21, (.int .i64 t21_31))] s → c1 t21_31 = some r → Run D σ (R54 r) (.run A54_1 [.lp A54_1, .bk 0, .sq A54_19]) s) (t50_83 : Bool) (s : Nat → V) (hs : Facts [(2, (.ref (.bx 2) 0 [] (.agg [(.int .i64 g_1.1), (Enc.enc (g_1.2 : List (Int × Int)))]))), (3, (.ref (.bx 3) 0 [] (Enc.enc (bags_2 : List (List Int))))), (4, (.bool false)), (20, (.int .i64 g_1.1)), (21, (.int .i64 t21_31)), (50, (.bool t50_83))] s) (h : i_isPathDecomposition_j3 F g_1 bags_2 t21_31 c1 t50_83 = some r) : Run D σ (R54 r) (.nrm [.sq A54_17, .bk 1, .sq A54_18, .lp A54_1, .bk 0, .sq A54_19]) s := by
  unfold i_isPathDecomposition_j3 at h
  obtain ⟨h2, h3, h4, h20, h21, h50⟩ := hs
  refine .nsq ?_
  refine run_cond (t := t50_83) h50 h (fun h => ?_) (fun h => ?_)
  · refine .seq ?_
    refine run_reg ?_
    refine e_end ?_
    refine g_v0 (.bool false) rfl rfl ?_
    refine g_end ?_
    refine e_end ?_
    refine renew [(2, (.ref (.bx 2) 0 [] (.agg [(.int .i64 g_1.1), (Enc.enc (g_1.2 : List (Int × Int)))]))), (3, (.ref (.bx 3) 0 [] (Enc.enc (bags_2 : List (List Int))))), (4, (.bool false)), (20, (.int .i64 g_1.1)), (21, (.int .i64 t21_31))] ⟨h2, h3, rfl, h20, h21⟩ ?_
    rintro s ⟨h2, h3, h4, h20, h21⟩
    refine .nsq ?_
    refine .ret ?_
    have hr := Option.some.inj h
    subst hr
    exact rrA (res_tmp h4) rfl
  · refine .skip ?_
    refine .nbk ?_
    refine .nsq ?_
    refine run_reg ?_
    refine e_end ?_
    refine g_v1 (t := 21) (u := (.int .i64 t21_31)) (.int .i64 (w64 (t21_31 + 1))) h21 rfl rfl ?_
    refine g_v1 (t := 51) (u := (.int .i64 (w64 (t21_31 + 1)))) (.int .i64 (w64 (t21_31 + 1))) rfl rfl rfl ?_
    refine g_end ?_
    refine e_end ?_
    refine renew [(2, (.ref (.bx 2) 0 [] (.agg [(.int .i64 g_1.1), (Enc.enc (g_1.2 : List (Int × Int)))]))), (3, (.ref (.bx 3) 0 [] (Enc.enc (bags_2 : List (List Int))))), (4, (.bool false)), (20, (.int .i64 g_1.1)), (21, (.int .i64 (w64 (t21_31 + 1))))] ⟨h2, h3, h4, h20, rfl⟩ ?_
    rintro s ⟨h2, h3, h4, h20, h21⟩
    refine .nlp ?_
    exact Hc1 (w64 (t21_31 + 1)) _ ⟨h2, h3, h4, h20, h21⟩ h
def i_isPathDecomposition_l1 (F : Nat) (g_1 : (Int × (List (Int × Int)))) (bags_2 : (List (List Int))) (t21_31 : Int) (c1 : Int → Option Bool) : Nat → Int → Int → Int → Int → Option Bool
  | 0, _, _, _, _ => none
  | k + 1, first_65, last_66, count_67, t26_68 =>
    bif decide (t26_68 < (bags_2.length : Int)) then
      (idx bags_2 t26_68).bind fun e_76 =>
      (slices_Contains F e_76 t21_31).bind fun r_77 =>
      bif r_77 then
        bif (count_67 == 0) then
          i_isPathDecomposition_j2 F g_1 bags_2 t21_31 last_66 count_67 t26_68 c1 (i_isPathDecomposition_l1 F g_1 bags_2 t21_31 c1 k) t26_68
        else
          i_isPathDecomposition_j2 F g_1 bags_2 t21_31 last_66 count_67 t26_68 c1 (i_isPathDecomposition_l1 F g_1 bags_2 t21_31 c1 k) first_65
      else
        i_isPathDecomposition_j1 F g_1 bags_2 t21_31 t26_68 c1 (i_isPathDecomposition_l1 F g_1 bags_2 t21_31 c1 k) first_65 last_66 count_67
    else
      bif (count_67 == 0) then
        i_isPathDecomposition_j3 F g_1 bags_2 t21_31 c1 true
      else
        i_isPathDecomposition_j3 F g_1 bags_2 t21_31 c1 ((w64 ((w64 (last_66 - first_65)) + 1)) != count_67)
theorem t_f54_l1 (H : H54 D σ F) (g_1 : (Int × (List (Int × Int)))) (bags_2 : (List (List Int))) (t21_31 : Int) (c1 : Int → Option Bool) (Hc1 : ∀ (t21_31 : Int) (s : Nat → V), Facts [(2, (.ref (.bx 2) 0 [] (.agg [(.int .i64 g_1.1), (Enc.enc (g_1.2 : List (Int × Int)))]))), (3, (.ref (.bx 3) 0 [] (Enc.enc (bags_2 : List (List Int))))), (4, (.bool false)), (20, (.int .i64 g_1.1)), (21, (.int .i64 t21_31))] s → c1 t21_31 = some r → Run D σ (R54 r) (.run A54_1 [.lp A54_1, .bk 0, .sq A54_19]) s) : ∀ (k : Nat) (first_65 : Int) (last_66 : Int) (count_67 : Int) (t26_68 : Int) (s : Nat → V), Facts [(2, (.ref (.bx 2) 0 [] (.agg [(.int .i64 g_1.1), (Enc.enc (g_1.2 : List (Int × Int)))]))), (3, (.ref (.bx 3) 0 [] (Enc.enc (bags_2 : List (List Int))))), (4, (.bool false)), (5, (.int .i64 t21_31)), (6, (.int .i64 first_65)), (7, (.int .i64 last_66)), (8, (.int .i64 count_67)), (20, (.int .i64 g_1.1)), (21, (.int .i64 t21_31)), (24, (Enc.enc (bags_2 : List (List Int)))), (25, (.int .i64 (bags_2.length : Int))), (26, (.int .i64 t26_68))] s → i_isPathDecomposition_l1 F g_1 bags_2 t21_31 c1 k first_65 last_66 count_67 t26_68 = some r → Run D σ (R54 r) (.run A54_7 [.lp A54_7, .bk 2, .sq A54_16, .bk 1, .sq A54_18, .lp A54_1, .bk 0, .sq A54_19]) s := by
  intro k
  induction k with
  | zero => intro first_65 last_66 count_67 t26_68 s _ h; exact nomatch (h : (none : Option _) = some r)
  | succ k ih =>
    intro first_65 last_66 count_67 t26_68 s hs h
    rw [i_isPathDecomposition_l1] at h
    obtain ⟨h2, h3, h4, h5, h6, h7, h8, h20, h21, h24, h25, h26⟩ := hs
    refine .seq ?_
    refine run_reg ?_
    refine e_end ?_
    refine g_v2 (t1 := 26) (t2 := 25) (u1 := (.int .i64 t26_68)) (u2 := (.int .i64 (bags_2.length : Int))) (.bool (decide (t26_68 < (bags_2.length : Int)))) h26 h25 rfl rfl ?_
    refine g_end ?_
    refine e_end ?_
    refine renew [(2, (.ref (.bx 2) 0 [] (.agg [(.int .i64 g_1.1), (Enc.enc (g_1.2 : List (Int × Int)))]))), (3, (.ref (.bx 3) 0 [] (Enc.enc (bags_2 : List (List Int))))), (4, (.bool false)), (5, (.int .i64 t21_31)), (6, (.int .i64 first_65)), (7, (.int .i64 last_66)), (8, (.int .i64 count_67)), (20, (.int .i64 g_1.1)), (21, (.int .i64 t21_31)), (24, (Enc.enc (bags_2 : List (List Int)))), (25, (.int .i64 (bags_2.length : Int))), (26, (.int .i64 t26_68)), (27, (.bool (decide (t26_68 < (bags_2.length : Int)))))] ⟨h2, h3, h4, h5, h6, h7, h8, h20, h21, h24, h25, h26, rfl⟩ ?_
    rintro s ⟨h2, h3, h4, h5, h6, h7, h8, h20, h21, h24, h25, h26, h27⟩
    refine .nsq ?_
    refine .seq ?_
    refine run_cond (t := decide (t26_68 < (bags_2.length : Int))) h27 h (fun h => ?_) (fun h => ?_)
    · refine .skip ?_
      refine .nsq ?_
      refine .seq ?_
      refine .block ?_
      refine .seq ?_
      refine run_reg ?_
      refine e_end ?_
      refine g_v1 (t := 26) (u := (.int .i64 t26_68)) (.int .i64 t26_68) h26 rfl rfl ?_
      obtain ⟨e_76, E_e_76, h⟩ := bind_some h
      refine g_v (.ref .sh 0 [] (Enc.enc (e_76 : List Int))) (ev_idx (t := .sh) (lo := 0) (xs := bags_2) h24 h26 E_e_76 rfl rfl) ?_
      refine g_v1 (t := 29) (u := (.ref .sh 0 [] (Enc.enc (e_76 : List Int)))) (Enc.enc (e_76 : List Int)) rfl rfl rfl ?_
      refine g_v1 (t := 28) (u := (.int .i64 t26_68)) (.int .i64 t26_68) rfl rfl rfl ?_
      refine g_v1 (t := 30) (u := (Enc.enc (e_76 : List Int))) (Enc.enc (e_76 : List Int)) rfl rfl rfl ?_
      refine g_end ?_
      refine e_end ?_
      refine renew [(2, (.ref (.bx 2) 0 [] (.agg [(.int .i64 g_1.1), (Enc.enc (g_1.2 : List (Int × Int)))]))), (3, (.ref (.bx 3) 0 [] (Enc.enc (bags_2 : List (List Int))))), (4, (.bool false)), (5, (.int .i64 t21_31)), (6, (.int .i64 first_65)), (7, (.int .i64 last_66)), (8, (.int .i64 count_67)), (9, (.int .i64 t26_68)), (10, (Enc.enc (e_76 : List Int))), (20, (.int .i64 g_1.1)), (21, (.int .i64 t21_31)), (24, (Enc.enc (bags_2 : List (List Int)))), (25, (.int .i64 (bags_2.length : Int))), (26, (.int .i64 t26_68))] ⟨h2, h3, h4, h5, h6, h7, h8, rfl, rfl, h20, h21, h24, h25, h26⟩ ?_
      rintro s ⟨h2, h3, h4, h5, h6, h7, h8, h9, h10, h20, h21, h24, h25, h26⟩
      refine .nsq ?_
      refine .seq ?_
      refine run_reg ?_
      refine e_end ?_
      refine g_v1 (t := 10) (u := (Enc.enc (e_76 : List Int))) (Enc.enc (e_76 : List Int)) h10 rfl rfl ?_
      refine g_v1 (t := 5) (u := (.int .i64 t21_31)) (.int .i64 t21_31) h5 rfl rfl ?_
      obtain ⟨r_77, E_r_77, h⟩ := bind_some h
      refine g_call (m := 0) (al := false) (r := (Enc.enc (r_77 : Bool))) [Enc.enc (e_76 : (List Int)), Enc.enc (t21_31 : Int)] (ta_cons (v := (Enc.enc (e_76 : List Int))) rfl rfl (Enc.erase_enc (e_76 : (List Int))) (ta_cons (v := (.int .i64 t21_31)) rfl rfl rfl ta_nil)) (H.c85 _ _ _ E_r_77) H.g85 rfl rfl rfl rfl ?_
      refine g_end ?_
      refine e_end ?_
      refine renew [(2, (.ref (.bx 2) 0 [] (.agg [(.int .i64 g_1.1), (Enc.enc (g_1.2 : List (Int × Int)))]))), (3, (.ref (.bx 3) 0 [] (Enc.enc (bags_2 : List (List Int))))), (4, (.bool false)), (5, (.int .i64 t21_31)), (6, (.int .i64 first_65)), (7, (.int .i64 last_66)), (8, (.int .i64 count_67)), (9, (.int .i64 t26_68)), (20, (.int .i64 g_1.1)), (21, (.int .i64 t21_31)), (24, (Enc.enc (bags_2 : List (List Int)))), (25, (.int .i64 (bags_2.length : Int))), (26, (.int .i64 t26_68)), (33, (.bool r_77))] ⟨h2, h3, h4, h5, h6, h7, h8, h9, h20, h21, h24, h25, h26, rfl⟩ ?_
      rintro s ⟨h2, h3, h4, h5, h6, h7, h8, h9, h20, h21, h24, h25, h26, h33⟩
      refine .nsq ?_
      refine run_cond (t := r_77) h33 h (fun h => ?_) (fun h => ?_)
      · refine .seq ?_
        refine .seq ?_
        refine run_reg ?_
        refine e_end ?_
        refine g_v1 (t := 8) (u := (.int .i64 count_67)) (.int .i64 count_67) h8 rfl rfl ?_
        refine g_v1 (t := 34) (u := (.int .i64 count_67)) (.bool (count_67 == 0)) rfl rfl rfl ?_
        refine g_end ?_
        refine e_end ?_
        refine renew [(2, (.ref (.bx 2) 0 [] (.agg [(.int .i64 g_1.1), (Enc.enc (g_1.2 : List (Int × Int)))]))), (3, (.ref (.bx 3) 0 [] (Enc.enc (bags_2 : List (List Int))))), (4, (.bool false)), (5, (.int .i64 t21_31)), (6, (.int .i64 first_65)), (7, (.int .i64 last_66)), (8, (.int .i64 count_67)), (9, (.int .i64 t26_68)), (20, (.int .i64 g_1.1)), (21, (.int .i64 t21_31)), (24, (Enc.enc (bags_2 : List (List Int)))), (25, (.int .i64 (bags_2.length : Int))), (26, (.int .i64 t26_68)), (35, (.bool (count_67 == 0)))] ⟨h2, h3, h4, h5, h6, h7, h8, h9, h20, h21, h24, h25, h26, rfl⟩ ?_
        rintro s ⟨h2, h3, h4, h5, h6, h7, h8, h9, h20, h21, h24, h25, h26, h35⟩
        refine .nsq ?_
        refine run_cond (t := (count_67 == 0)) h35 h (fun h => ?_) (fun h => ?_)
        · refine run_reg ?_
          refine e_end ?_
          refine g_v1 (t := 9) (u := (.int .i64 t26_68)) (.int .i64 t26_68) h9 rfl rfl ?_
          refine g_v1 (t := 36) (u := (.int .i64 t26_68)) (.int .i64 t26_68) rfl rfl rfl ?_
          refine g_end ?_
          refine e_end ?_
          refine renew [(2, (.ref (.bx 2) 0 [] (.agg [(.int .i64 g_1.1), (Enc.enc (g_1.2 : List (Int × Int)))]))), (3, (.ref (.bx 3) 0 [] (Enc.enc (bags_2 : List (List Int))))), (4, (.bool false)), (5, (.int .i64 t21_31)), (6, (.int .i64 t26_68)), (7, (.int .i64 last_66)), (8, (.int .i64 count_67)), (9, (.int .i64 t26_68)), (20, (.int .i64 g_1.1)), (21, (.int .i64 t21_31)), (24, (Enc.enc (bags_2 : List (List Int)))), (25, (.int .i64 (bags_2.length : Int))), (26, (.int .i64 t26_68))] ⟨h2, h3, h4, h5, rfl, h7, h8, h9, h20, h21, h24, h25, h26⟩ ?_
          rintro s ⟨h2, h3, h4, h5, h6, h7, h8, h9, h20, h21, h24, h25, h26⟩
          exact t_f54_j2 H g_1 bags_2 t21_31 last_66 count_67 t26_68 c1 Hc1 (i_isPathDecomposition_l1 F g_1 bags_2 t21_31 c1 k) ih t26_68 _ ⟨h2, h3, h4, h5, h6, h7, h8, h9, h20, h21, h24, h25, h26⟩ h
        · refine .skip ?_
          exact t_f54_j2 H g_1 bags_2 t21_31 last_66 count_67 t26_68 c1 Hc1 (i_isPathDecomposition_l1 F g_1 bags_2 t21_31 c1 k) ih first_65 _ ⟨h2, h3, h4, h5, h6, h7, h8, h9, h20, h21, h24, h25, h26⟩ h
      · refine .skip ?_
        exact t_f54_j1 H g_1 bags_2 t21_31 t26_68 c1 Hc1 (i_isPathDecomposition_l1 F g_1 bags_2 t21_31 c1 k) ih first_65 last_66 count_67 _ ⟨h2, h3, h4, h5, h6, h7, h8, h20, h21, h24, h25, h26⟩ h
    · refine .exit ?_
      refine .esq ?_
      refine .elp ?_
      refine .ebk ?_
      refine .nsq ?_
      refine .seq ?_
      refine run_reg ?_
      refine e_end ?_
      refine g_v1 (t := 8) (u := (.int .i64 count_67)) (.int .i64 count_67) h8 rfl rfl ?_
      refine g_v1 (t := 41) (u := (.int .i64 count_67)) (.bool (count_67 == 0)) rfl rfl rfl ?_
      refine g_v1 (t := 42) (u := (.bool (count_67 == 0))) (.bool (count_67 == 0)) rfl rfl rfl ?_
      refine split_on (c := (count_67 == 0)) h (fun hg3 h => ?_) (fun hg3 h => ?_)
      · refine g_no (Eq.trans (b := .bool (count_67 == 0)) rfl (congrArg V.bool hg3)) ?_
        refine g_no (Eq.trans (b := .bool (count_67 == 0)) rfl (congrArg V.bool hg3)) ?_
        refine g_no (Eq.trans (b := .bool (count_67 == 0)) rfl (congrArg V.bool hg3)) ?_
        refine g_no (Eq.trans (b := .bool (count_67 == 0)) rfl (congrArg V.bool hg3)) ?_
        refine g_no (Eq.trans (b := .bool (count_67 == 0)) rfl (congrArg V.bool hg3)) ?_
        refine g_no (Eq.trans (b := .bool (count_67 == 0)) rfl (congrArg V.bool hg3)) ?_
        refine g_v2 (t1 := 43) (t2 := 49) (u1 := (.bool true)) (u2 := (.tup [])) (.bool true) (Eq.trans (b := .bool (count_67 == 0)) rfl (congrArg V.bool hg3)) rfl rfl rfl ?_
        refine g_end ?_
        refine e_end ?_
        refine renew [(2, (.ref (.bx 2) 0 [] (.agg [(.int .i64 g_1.1), (Enc.enc (g_1.2 : List (Int × Int)))]))), (3, (.ref (.bx 3) 0 [] (Enc.enc (bags_2 : List (List Int))))), (4, (.bool false)), (20, (.int .i64 g_1.1)), (21, (.int .i64 t21_31)), (50, (.bool true))] ⟨h2, h3, h4, h20, h21, rfl⟩ ?_
        rintro s ⟨h2, h3, h4, h20, h21, h50⟩
        exact t_f54_j3 H g_1 bags_2 t21_31 c1 Hc1 true _ ⟨h2, h3, h4, h20, h21, h50⟩ h
      · refine g_yes (Eq.trans (b := .bool (count_67 == 0)) rfl (congrArg V.bool hg3)) (g_v1 (t := 7) (u := (.int .i64 last_66)) (.int .i64 last_66) h7 rfl rfl ?_)
        refine g_yes (Eq.trans (b := .bool (count_67 == 0)) rfl (congrArg V.bool hg3)) (g_v1 (t := 6) (u := (.int .i64 first_65)) (.int .i64 first_65) h6 rfl rfl ?_)
        refine g_yes (Eq.trans (b := .bool (count_67 == 0)) rfl (congrArg V.bool hg3)) (g_v2 (t1 := 44) (t2 := 45) (u1 := (.int .i64 last_66)) (u2 := (.int .i64 first_65)) (.int .i64 (w64 (last_66 - first_65))) rfl rfl rfl rfl ?_)
        refine g_yes (Eq.trans (b := .bool (count_67 == 0)) rfl (congrArg V.bool hg3)) (g_v1 (t := 46) (u := (.int .i64 (w64 (last_66 - first_65)))) (.int .i64 (w64 ((w64 (last_66 - first_65)) + 1))) rfl rfl rfl ?_)
        refine g_yes (Eq.trans (b := .bool (count_67 == 0)) rfl (congrArg V.bool hg3)) (g_v1 (t := 8) (u := (.int .i64 count_67)) (.int .i64 count_67) h8 rfl rfl ?_)
        refine g_yes (Eq.trans (b := .bool (count_67 == 0)) rfl (congrArg V.bool hg3)) (g_v2 (t1 := 47) (t2 := 48) (u1 := (.int .i64 (w64 ((w64 (last_66 - first_65)) + 1)))) (u2 := (.int .i64 count_67)) (.bool ((w64 ((w64 (last_66 - first_65)) + 1)) != count_67)) rfl rfl rfl rfl ?_)
        refine g_v2 (t1 := 43) (t2 := 49) (u1 := (.bool false)) (u2 := (.bool ((w64 ((w64 (last_66 - first_65)) + 1)) != count_67))) (.bool ((w64 ((w64 (last_66 - first_65)) + 1)) != count_67)) (Eq.trans (b := .bool (count_67 == 0)) rfl (congrArg V.bool hg3)) rfl rfl rfl ?_
        refine g_end ?_
        refine e_end ?_
        refine renew [(2, (.ref (.bx 2) 0 [] (.agg [(.int .i64 g_1.1), (Enc.enc (g_1.2 : List (Int × Int)))]))), (3, (.ref (.bx 3) 0 [] (Enc.enc (bags_2 : List (List Int))))), (4, (.bool false)), (20, (.int .i64 g_1.1)), (21, (.int .i64 t21_31)), (50, (.bool ((w64 ((w64 (last_66 - first_65)) + 1)) != count_67)))] ⟨h2, h3, h4, h20, h21, rfl⟩ ?_
        rintro s ⟨h2, h3, h4, h20, h21, h50⟩
        exact t_f54_j3 H g_1 bags_2 t21_31 c1 Hc1 ((w64 ((w64 (last_66 - first_65)) + 1)) != count_67) _ ⟨h2, h3, h4, h20, h21, h50⟩ h
def i_isPathDecomposition_l2 (F : Nat) (g_1 : (Int × (List (Int × Int)))) (bags_2 : (List (List Int)))  : Nat → Int → Option Bool
  | 0, _ => none
  | k + 1, t21_31 =>
    bif decide (t21_31 < g_1.1) then
      i_isPathDecomposition_l1 F g_1 bags_2 t21_31 (i_isPathDecomposition_l2 F g_1 bags_2 k) F (-1) (-1) 0 0
    else
      (slices_ContainsFunc_2_int_2_int_of_i_isPathDecomposition_2 F g_1.2 (Cl.mk () ((Rf.mk bags_2 : (Rf (List (List Int)))), ()) : (Cl 87 Unit ((Rf (List (List Int))) × Unit)))).bind fun r_84 =>
      some (!r_84)
theorem t_f54_l2 (H : H54 D σ F) (g_1 : (Int × (List (Int × Int)))) (bags_2 : (List (List Int)))  : ∀ (k : Nat) (t21_31 : Int) (s : Nat → V), Facts [(2, (.ref (.bx 2) 0 [] (.agg [(.int .i64 g_1.1), (Enc.enc (g_1.2 : List (Int × Int)))]))), (3, (.ref (.bx 3) 0 [] (Enc.enc (bags_2 : List (List Int))))), (4, (.bool false)), (20, (.int .i64 g_1.1)), (21, (.int .i64 t21_31))] s → i_isPathDecomposition_l2 F g_1 bags_2 k t21_31 = some r → Run D σ (R54 r) (.run A54_1 [.lp A54_1, .bk 0, .sq A54_19]) s := by
  intro k
  induction k with
  | zero => intro t21_31 s _ h; exact nomatch (h : (none : Option _) = some r)
  | succ k ih =>
    intro t21_31 s hs h
    rw [i_isPathDecomposition_l2] at h
    obtain ⟨h2, h3, h4, h20, h21⟩ := hs
    refine .seq ?_
    refine run_reg ?_
    refine e_end ?_
    refine g_v2 (t1 := 21) (t2 := 20) (u1 := (.int .i64 t21_31)) (u2 := (.int .i64 g_1.1)) (.bool (decide (t21_31 < g_1.1))) h21 h20 rfl rfl ?_
    refine g_end ?_
    refine e_end ?_
    refine renew [(2, (.ref (.bx 2) 0 [] (.agg [(.int .i64 g_1.1), (Enc.enc (g_1.2 : List (Int × Int)))]))), (3, (.ref (.bx 3) 0 [] (Enc.enc (bags_2 : List (List Int))))), (4, (.bool false)), (20, (.int .i64 g_1.1)), (21, (.int .i64 t21_31)), (22, (.bool (decide (t21_31 < g_1.1))))] ⟨h2, h3, h4, h20, h21, rfl⟩ ?_
    rintro s ⟨h2, h3, h4, h20, h21, h22⟩
    refine .nsq ?_
    refine .seq ?_
    refine run_cond (t := decide (t21_31 < g_1.1)) h22 h (fun h => ?_) (fun h => ?_)
    · refine .skip ?_
      refine .nsq ?_
      refine .seq ?_
      refine .block ?_
      refine .seq ?_
      refine run_reg ?_
      refine e_end ?_
      refine g_v1 (t := 21) (u := (.int .i64 t21_31)) (.int .i64 t21_31) h21 rfl rfl ?_
      refine g_v1 (t := 23) (u := (.int .i64 t21_31)) (.int .i64 t21_31) rfl rfl rfl ?_
      refine g_end ?_
      refine e_end ?_
      refine renew [(2, (.ref (.bx 2) 0 [] (.agg [(.int .i64 g_1.1), (Enc.enc (g_1.2 : List (Int × Int)))]))), (3, (.ref (.bx 3) 0 [] (Enc.enc (bags_2 : List (List Int))))), (4, (.bool false)), (5, (.int .i64 t21_31)), (20, (.int .i64 g_1.1)), (21, (.int .i64 t21_31))] ⟨h2, h3, h4, rfl, h20, h21⟩ ?_
      rintro s ⟨h2, h3, h4, h5, h20, h21⟩
      refine .nsq ?_
      refine .seq ?_
      refine run_reg ?_
      refine e_end ?_
      refine g_v0 (.int .i64 (-1)) rfl rfl ?_
      refine g_v0 (.int .i64 (-1)) rfl rfl ?_
      refine g_v0 (.int .i64 0) rfl rfl ?_
      refine g_end ?_
      refine e_end ?_
      refine renew [(2, (.ref (.bx 2) 0 [] (.agg [(.int .i64 g_1.1), (Enc.enc (g_1.2 : List (Int × Int)))]))), (3, (.ref (.bx 3) 0 [] (Enc.enc (bags_2 : List (List Int))))), (4, (.bool false)), (5, (.int .i64 t21_31)), (6, (.int .i64 (-1))), (7, (.int .i64 (-1))), (8, (.int .i64 0)), (20, (.int .i64 g_1.1)), (21, (.int .i64 t21_31))] ⟨h2, h3, h4, h5, rfl, rfl, rfl, h20, h21⟩ ?_
      rintro s ⟨h2, h3, h4, h5, h6, h7, h8, h20, h21⟩
      refine .nsq ?_
      refine .seq ?_
      refine .seq ?_
      refine run_reg ?_
      refine e_end ?_
      refine g_v1 (t := 3) (u := (.ref (.bx 3) 0 [] (Enc.enc (bags_2 : List (List Int))))) (Enc.enc (bags_2 : List (List Int))) h3 rfl rfl ?_
      refine g_v (.int .i64 (bags_2.length : Int)) (ev_len (xs := bags_2) rfl) ?_
      refine g_v0 (.int .i64 0) rfl rfl ?_
      refine g_end ?_
      refine e_end ?_
      refine renew [(2, (.ref (.bx 2) 0 [] (.agg [(.int .i64 g_1.1), (Enc.enc (g_1.2 : List (Int × Int)))]))), (3, (.ref (.bx 3) 0 [] (Enc.enc (bags_2 : List (List Int))))), (4, (.bool false)), (5, (.int .i64 t21_31)), (6, (.int .i64 (-1))), (7, (.int .i64 (-1))), (8, (.int .i64 0)), (20, (.int .i64 g_1.1)), (21, (.int .i64 t21_31)), (24, (Enc.enc (bags_2 : List (List Int)))), (25, (.int .i64 (bags_2.length : Int))), (26, (.int .i64 0))] ⟨h2, h3, h4, h5, h6, h7, h8, h20, h21, rfl, rfl, rfl⟩ ?_
      rintro s ⟨h2, h3, h4, h5, h6, h7, h8, h20, h21, h24, h25, h26⟩
      refine .nsq ?_
      refine .block ?_
      refine .loop ?_
      exact t_f54_l1 H g_1 bags_2 t21_31 (i_isPathDecomposition_l2 F g_1 bags_2 k) ih F (-1) (-1) 0 0 _ ⟨h2, h3, h4, h5, h6, h7, h8, h20, h21, h24, h25, h26⟩ h
    · refine .exit ?_
      refine .esq ?_
      refine .elp ?_
      refine .ebk ?_
      refine .nsq ?_
      refine .seq ?_
      refine run_reg ?_
      refine e_end ?_
      refine g_v1 (t := 2) (u := (.ref (.bx 2) 0 [] (.agg [(.int .i64 g_1.1), (Enc.enc (g_1.2 : List (Int × Int)))]))) (.ref (.bx 2) 0 [1] (Enc.enc (g_1.2 : List (Int × Int)))) h2 rfl rfl ?_
      refine g_v1 (t := 52) (u := (.ref (.bx 2) 0 [1] (Enc.enc (g_1.2 : List (Int × Int))))) (Enc.enc (g_1.2 : List (Int × Int))) rfl rfl rfl ?_
      refine g_v1 (t := 3) (u := (.ref (.bx 3) 0 [] (Enc.enc (bags_2 : List (List Int))))) (.fn 87 [] [(.ref (.bx 3) 0 [] (Enc.enc (bags_2 : List (List Int))))]) h3 rfl rfl ?_
      obtain ⟨r_84, E_r_84, h⟩ := bind_some h
      refine g_call (m := 0) (al := false) (r := (Enc.enc (r_84 : Bool))) [Enc.enc (g_1.2 : (List (Int × Int))), Arg.arg ((Cl.mk () ((Rf.mk bags_2 : (Rf (List (List Int)))), ()) : (Cl 87 Unit ((Rf (List (List Int))) × Unit))) : (Cl 87 Unit ((Rf (List (List Int))) × Unit)))] (ta_cons (v := (Enc.enc (g_1.2 : List (Int × Int)))) rfl rfl (Enc.erase_enc (g_1.2 : (List (Int × Int)))) (ta_cons (v := (.fn 87 [] [(.ref (.bx 3) 0 [] (Enc.enc (bags_2 : List (List Int))))])) rfl rfl (erase_fn erases_nil (erases_cons (erase_ref (Enc.erase_enc (bags_2 : (List (List Int))))) erases_nil)) ta_nil)) (H.c86s1 _ _ _ E_r_84) H.g86s1 rfl rfl rfl rfl ?_
      refine g_v1 (t := 55) (u := (.bool r_84)) (.bool (!r_84)) rfl rfl rfl ?_
      refine g_v1 (t := 56) (u := (.bool (!r_84))) (.bool (!r_84)) rfl rfl rfl ?_
      refine g_end ?_
      refine e_end ?_
      refine renew [(4, (.bool (!r_84)))] rfl ?_
      rintro s h4
      refine .nsq ?_
      refine .ret ?_
      have hr := Option.some.inj h
      subst hr
      exact rrA (res_tmp h4) rfl
def i_isPathDecomposition_j4 (F : Nat) (g_1 : (Int × (List (Int × Int)))) (bags_2 : (List (List Int)))  (t18_4 : Bool) : Option Bool :=
  bif t18_4 then
    some false
  else
    i_isPathDecomposition_l2 F g_1 bags_2 F 0
theorem t_f54_j4 (H : H54 D σ F) (g_1 : (Int × (List (Int × Int)))) (bags_2 : (List (List Int)))  (t18_4 : Bool) (s : Nat → V) (hs : Facts [(2, (.ref (.bx 2) 0 [] (.agg [(.int .i64 g_1.1), (Enc.enc (g_1.2 : List (Int × Int)))]))), (3, (.ref (.bx 3) 0 [] (Enc.enc (bags_2 : List (List Int))))), (4, (.bool false)), (18, (.bool t18_4))] s) (h : i_isPathDecomposition_j4 F g_1 bags_2  t18_4 = some r) : Run D σ (R54 r) (.nrm [.sq A54_20, .sq A54_21]) s := by
  unfold i_isPathDecomposition_j4 at h
  obtain ⟨h2, h3, h4, h18⟩ := hs
  refine .nsq ?_
  refine run_cond (t := t18_4) h18 h (fun h => ?_) (fun h => ?_)
  · refine .seq ?_
    refine run_reg ?_
    refine e_end ?_
    refine g_v0 (.bool false) rfl rfl ?_
    refine g_end ?_
    refine e_end ?_
    refine renew [(2, (.ref (.bx 2) 0 [] (.agg [(.int .i64 g_1.1), (Enc.enc (g_1.2 : List (Int × Int)))]))), (3, (.ref (.bx 3) 0 [] (Enc.enc (bags_2 : List (List Int))))), (4, (.bool false))] ⟨h2, h3, rfl⟩ ?_
    rintro s ⟨h2, h3, h4⟩
    refine .nsq ?_
    refine .ret ?_
    have hr := Option.some.inj h
    subst hr
    exact rrA (res_tmp h4) rfl
  · refine .skip ?_
    refine .nsq ?_
    refine .seq ?_
    refine .seq ?_
    refine run_reg ?_
    refine e_end ?_
    refine g_v1 (t := 2) (u := (.ref (.bx 2) 0 [] (.agg [(.int .i64 g_1.1), (Enc.enc (g_1.2 : List (Int × Int)))]))) (.ref (.bx 2) 0 [0] (.int .i64 g_1.1)) h2 rfl rfl ?_
    refine g_v1 (t := 19) (u := (.ref (.bx 2) 0 [0] (.int .i64 g_1.1))) (.int .i64 g_1.1) rfl rfl rfl ?_
    refine g_v0 (.int .i64 0) rfl rfl ?_
    refine g_end ?_
    refine e_end ?_
    refine renew [(2, (.ref (.bx 2) 0 [] (.agg [(.int .i64 g_1.1), (Enc.enc (g_1.2 : List (Int × Int)))]))), (3, (.ref (.bx 3) 0 [] (Enc.enc (bags_2 : List (List Int))))), (4, (.bool false)), (20, (.int .i64 g_1.1)), (21, (.int .i64 0))] ⟨h2, h3, h4, rfl, rfl⟩ ?_
    rintro s ⟨h2, h3, h4, h20, h21⟩
    refine .nsq ?_
    refine .block ?_
    refine .loop ?_
    exact t_f54_l2 H g_1 bags_2 F 0 _ ⟨h2, h3, h4, h20, h21⟩ h
def i_isPathDecomposition (F : Nat) (g_1 : (Int × (List (Int × Int)))) (bags_2 : (List (List Int))) : Option Bool :=
  bif decide ((bags_2.length : Int) > 16) then
    i_isPathDecomposition_j4 F g_1 bags_2 true
  else
    (slices_ContainsFunc_int_int_of_i_isPathDecomposition_1 F bags_2 (Cl.mk () ((Rf.mk g_1 : (Rf (Int × (List (Int × Int))))), ()) : (Cl 83 Unit ((Rf (Int × (List (Int × Int)))) × Unit)))).bind fun r_85 =>
    i_isPathDecomposition_j4 F g_1 bags_2 r_85
theorem t54 (H : H54 D σ F) (g_1 : (Int × (List (Int × Int)))) (bags_2 : (List (List Int))) (s : Nat → V) (hs : Facts [(0, (.agg [(.int .i64 g_1.1), (Enc.enc (g_1.2 : List (Int × Int)))])), (1, (Enc.enc (bags_2 : List (List Int))))] s) (h : i_isPathDecomposition F g_1 bags_2 = some r) : Run D σ (R54 r) (.run A54 []) s := by
  unfold i_isPathDecomposition at h
  obtain ⟨h0, h1⟩ := hs
  refine .seq ?_
  refine run_reg ?_
  refine e_clr ?_
  refine e_end ?_
  refine g_box (.agg [(.int .i64 g_1.1), (Enc.enc (g_1.2 : List (Int × Int)))]) (rd_of (keep_clear (s := s) (pk := [2, 3]) h0 rfl (map_agg (maps_cons rfl (maps_cons (Enc.map_enc _ (g_1.2 : List (Int × Int))) maps_nil)))) rfl) (gone_clear (s := s) (pk := [2, 3]) (t := 2) rfl) rfl ?_
  refine g_box (Enc.enc (bags_2 : List (List Int))) (rd_of (keep_clear (s := s) (pk := [2, 3]) h1 rfl (Enc.map_enc _ (bags_2 : List (List Int)))) rfl) (gone_clear (s := s) (pk := [2, 3]) (t := 3) rfl) rfl ?_
  refine g_v0 (.bool false) rfl rfl ?_
  refine g_end ?_
  refine e_end ?_
  refine renew [(2, (.ref (.bx 2) 0 [] (.agg [(.int .i64 g_1.1), (Enc.enc (g_1.2 : List (Int × Int)))]))), (3, (.ref (.bx 3) 0 [] (Enc.enc (bags_2 : List (List Int))))), (4, (.bool false))] ⟨rfl, rfl, rfl⟩ ?_
  rintro s ⟨h2, h3, h4⟩
  refine .nsq ?_
  refine .seq ?_
  refine .seq ?_
  refine run_reg ?_
  refine e_end ?_
  refine g_v1 (t := 3) (u := (.ref (.bx 3) 0 [] (Enc.enc (bags_2 : List (List Int))))) (Enc.enc (bags_2 : List (List Int))) h3 rfl rfl ?_
  refine g_v (.int .i64 (bags_2.length : Int)) (ev_len (xs := bags_2) rfl) ?_
  refine g_v1 (t := 12) (u := (.int .i64 (bags_2.length : Int))) (.bool (decide ((bags_2.length : Int) > 16))) rfl rfl rfl ?_
  refine g_v1 (t := 13) (u := (.bool (decide ((bags_2.length : Int) > 16)))) (.bool (decide ((bags_2.length : Int) > 16))) rfl rfl rfl ?_
  refine split_on (c := decide ((bags_2.length : Int) > 16)) h (fun hg4 h => ?_) (fun hg4 h => ?_)
  · refine g_no (Eq.trans (b := .bool (decide ((bags_2.length : Int) > 16))) rfl (congrArg V.bool hg4)) ?_
    refine g_no (Eq.trans (b := .bool (decide ((bags_2.length : Int) > 16))) rfl (congrArg V.bool hg4)) ?_
    refine g_no (Eq.trans (b := .bool (decide ((bags_2.length : Int) > 16))) rfl (congrArg V.bool hg4)) ?_
    refine g_v2 (t1 := 14) (t2 := 17) (u1 := (.bool true)) (u2 := (.tup [])) (.bool true) (Eq.trans (b := .bool (decide ((bags_2.length : Int) > 16))) rfl (congrArg V.bool hg4)) rfl rfl rfl ?_
    refine g_end ?_
    refine e_end ?_
    refine renew [(2, (.ref (.bx 2) 0 [] (.agg [(.int .i64 g_1.1), (Enc.enc (g_1.2 : List (Int × Int)))]))), (3, (.ref (.bx 3) 0 [] (Enc.enc (bags_2 : List (List Int))))), (4, (.bool false)), (18, (.bool true))] ⟨h2, h3, h4, rfl⟩ ?_
    rintro s ⟨h2, h3, h4, h18⟩
    exact t_f54_j4 H g_1 bags_2 true _ ⟨h2, h3, h4, h18⟩ h
  · refine g_yes (Eq.trans (b := .bool (decide ((bags_2.length : Int) > 16))) rfl (congrArg V.bool hg4)) (g_v1 (t := 3) (u := (.ref (.bx 3) 0 [] (Enc.enc (bags_2 : List (List Int))))) (Enc.enc (bags_2 : List (List Int))) h3 rfl rfl ?_)
    refine g_yes (Eq.trans (b := .bool (decide ((bags_2.length : Int) > 16))) rfl (congrArg V.bool hg4)) (g_v1 (t := 2) (u := (.ref (.bx 2) 0 [] (.agg [(.int .i64 g_1.1), (Enc.enc (g_1.2 : List (Int × Int)))]))) (.fn 83 [] [(.ref (.bx 2) 0 [] (.agg [(.int .i64 g_1.1), (Enc.enc (g_1.2 : List (Int × Int)))]))]) h2 rfl rfl ?_)
    obtain ⟨r_85, E_r_85, h⟩ := bind_some h
    refine g_yes (Eq.trans (b := .bool (decide ((bags_2.length : Int) > 16))) rfl (congrArg V.bool hg4)) (g_call (m := 0) (al := false) (r := (Enc.enc (r_85 : Bool))) [Enc.enc (bags_2 : (List (List Int))), Arg.arg ((Cl.mk () ((Rf.mk g_1 : (Rf (Int × (List (Int × Int))))), ()) : (Cl 83 Unit ((Rf (Int × (List (Int × Int)))) × Unit))) : (Cl 83 Unit ((Rf (Int × (List (Int × Int)))) × Unit)))] (ta_cons (v := (Enc.enc (bags_2 : List (List Int)))) rfl rfl (Enc.erase_enc (bags_2 : (List (List Int)))) (ta_cons (v := (.fn 83 [] [(.ref (.bx 2) 0 [] (.agg [(.int .i64 g_1.1), (Enc.enc (g_1.2 : List (Int × Int)))]))])) rfl rfl (erase_fn erases_nil (erases_cons (erase_ref (Enc.erase_enc (g_1 : (Int × (List (Int × Int)))))) erases_nil)) ta_nil)) (H.c82s1 _ _ _ E_r_85) H.g82s1 rfl rfl rfl rfl ?_)
    refine g_v2 (t1 := 14) (t2 := 17) (u1 := (.bool false)) (u2 := (.bool r_85)) (.bool r_85) (Eq.trans (b := .bool (decide ((bags_2.length : Int) > 16))) rfl (congrArg V.bool hg4)) rfl rfl rfl ?_
    refine g_end ?_
    refine e_end ?_
    refine renew [(2, (.ref (.bx 2) 0 [] (.agg [(.int .i64 g_1.1), (Enc.enc (g_1.2 : List (Int × Int)))]))), (3, (.ref (.bx 3) 0 [] (Enc.enc (bags_2 : List (List Int))))), (4, (.bool false)), (18, (.bool r_85))] ⟨h2, h3, h4, rfl⟩ ?_
    rintro s ⟨h2, h3, h4, h18⟩
    exact t_f54_j4 H g_1 bags_2 r_85 _ ⟨h2, h3, h4, h18⟩ h
end
def e54 (F : Nat) : Ent := ⟨54, da (fun (x : ((Int × (List (Int × Int))) × (List (List Int)) × Unit)) => i_isPathDecomposition F x.1 x.2.1) (fun (r : Bool) => (Enc.enc (r : Bool))), 0, false, selF []⟩
theorem p54 {F : Nat} {x0 : (Int × (List (Int × Int)))} {x1 : (List (List Int))} {r : Bool} (h : i_isPathDecomposition F x0 x1 = some r) : (e54 F).den [Enc.enc x0, Enc.enc x1] = some (Enc.enc (r : Bool)) := da_put (f := fun (x : ((Int × (List (Int × Int))) × (List (List Int)) × Unit)) => i_isPathDecomposition F x.1 x.2.1) (t := fun (r : Bool) => (Enc.enc (r : Bool))) (x0, x1, ()) h
theorem o54 {D : Den} {σ : Sig} {F : Nat} (hF : Fits2 Try.prog D σ) (H : H54 D σ F) : (e54 F).Ok Try.prog := by
  refine ⟨fun args r h => ?_, ⟨Try.f54, Try.func54, rfl, rfl⟩⟩
  obtain ⟨⟨x0, x1, _⟩, y, rfl, hy, rfl⟩ := da_open h
  exact contract_run hF (by kernel_rfl) Try.func54 rfl c54 (show 2 ≤ Try.f54.ntmps by decide) (t54 H x0 x1 _ ⟨rfl, rfl⟩ hy)
/- loop.example/g01109/impl.IsPathDecomposition -/
def A23_2 : AC := (AC.cond (O.t 8) (AC.seq (AC.reg [] [(I.mk (some 4) none false (X.v (A.mov (O.k (V.bool false))))), (I.mk (some 5) none false (X.v (A.mov (O.k (V.bool false)))))] []) AC.ret) AC.skip)
def A23_3 : AC := (AC.seq (AC.reg [] [(I.mk (some 9) none false (X.v (A.load (Sh.ag [Sh.s, Sh.p]) (O.t 2)))), (I.mk (some 10) none false (X.v (A.mov (O.t 1)))), (I.mk (some 11) none false (X.call (O.k (V.fn 54 [] [])) [(O.t 9), (O.t 10)])), (I.mk (some 4) none false (X.v (A.mov (O.t 11)))), (I.mk (some 5) none false (X.v (A.mov (O.k (V.bool true)))))] []) AC.ret)
def A23_1 : AC := (AC.seq (AC.seq (AC.reg [] [(I.mk (some 6) none false (X.v (A.load (Sh.ag [Sh.s, Sh.p]) (O.t 2)))), (I.mk (some 7) none false (X.call (O.k (V.fn 53 [] [])) [(O.t 6)])), (I.mk (some 8) none false (X.v (A.un UnOp.not (O.t 7))))] []) A23_2) A23_3)
def A23 : AC := (AC.seq (AC.reg [.clr [2]] [(I.mk (some 2) none false (X.box (O.t 0))), (I.mk (some 4) none false (X.v (A.mov (O.k (V.bool false))))), (I.mk (some 5) none false (X.v (A.mov (O.k (V.bool false)))))] []) A23_1)
def an23 : List An := [{ id := 0, pre := [.clr [2]], ep := [], lin := [], sp := [] }]
theorem c23 : cC Try.prog Try.f23.ntmps an23 (Try.f23.body.getD .skip) = some A23 := by kernel_rfl
structure H23 (D : Den) (σ : Sig) (F : Nat) : Prop where
  c53 : ∀ (x0 : (Int × (List (Int × Int)))) r, i_IsGraph F x0 = some r → D 53 [Enc.enc x0] = some (Enc.enc (r : Bool))
  g53 : σ 53 = some (0, false)
  c54 : ∀ (x0 : (Int × (List (Int × Int)))) (x1 : (List (List Int))) r, i_isPathDecomposition F x0 x1 = some r → D 54 [Enc.enc x0, Enc.enc x1] = some (Enc.enc (r : Bool))
  g54 : σ 54 = some (0, false)
abbrev R23 (r : (Bool × Bool)) : (Nat → V) → Prop := RR Try.prog [.tmp 4, .tmp 5] 0 false (.tup [Enc.enc (r.1 : Bool), Enc.enc (r.2 : Bool)])
section
variable {D : Den} {σ : Sig} {F : Nat} {r : (Bool × Bool)}
def i_IsPathDecomposition (F : Nat) (g_1 : (Int × (List (Int × Int)))) (bags_2 : (List (List Int))) : Option (Bool × Bool) :=
  (i_IsGraph F g_1).bind fun r_3 =>
  bif (!r_3) then
    some (false, false)
  else
    (i_isPathDecomposition F g_1 bags_2).bind fun r_4 =>
    some (r_4, true)
theorem t23 (H : H23 D σ F) (g_1 : (Int × (List (Int × Int)))) (bags_2 : (List (List Int))) (s : Nat → V) (hs : Facts [(0, (.agg [(.int .i64 g_1.1), (Enc.enc (g_1.2 : List (Int × Int)))])), (1, (Enc.enc (bags_2 : List (List Int))))] s) (h : i_IsPathDecomposition F g_1 bags_2 = some r) : Run D σ (R23 r) (.run A23 []) s := by
  unfold i_IsPathDecomposition at h
  obtain ⟨h0, h1⟩ := hs
  refine .seq ?_
  refine run_reg ?_
  refine e_clr ?_
  refine e_end ?_
  refine g_box (.agg [(.int .i64 g_1.1), (Enc.enc (g_1.2 : List (Int × Int)))]) (rd_of (keep_clear (s := s) (pk := [2]) h0 rfl (map_agg (maps_cons rfl (maps_cons (Enc.map_enc _ (g_1.2 : List (Int × Int))) maps_nil)))) rfl) (gone_clear (s := s) (pk := [2]) (t := 2) rfl) rfl ?_
  refine g_v0 (.bool false) rfl rfl ?_
  refine g_v0 (.bool false) rfl rfl ?_
  refine g_end ?_
  refine e_end ?_
  refine renew [(1, (Enc.enc (bags_2 : List (List Int)))), (2, (.ref (.bx 2) 0 [] (.agg [(.int .i64 g_1.1), (Enc.enc (g_1.2 : List (Int × Int)))]))), (4, (.bool false)), (5, (.bool false))] ⟨(keep_clear (s := s) (pk := [2]) h1 rfl (Enc.map_enc _ (bags_2 : List (List Int)))), rfl, rfl, rfl⟩ ?_
  rintro s ⟨h1, h2, h4, h5⟩
  refine .nsq ?_
  refine .seq ?_
  refine .seq ?_
  refine run_reg ?_
  refine e_end ?_
  refine g_v1 (t := 2) (u := (.ref (.bx 2) 0 [] (.agg [(.int .i64 g_1.1), (Enc.enc (g_1.2 : List (Int × Int)))]))) (.agg [(.int .i64 g_1.1), (Enc.enc (g_1.2 : List (Int × Int)))]) h2 rfl rfl ?_
  obtain ⟨r_3, E_r_3, h⟩ := bind_some h
  refine g_call (m := 0) (al := false) (r := (Enc.enc (r_3 : Bool))) [Enc.enc (g_1 : (Int × (List (Int × Int))))] (ta_cons (v := (.agg [(.int .i64 g_1.1), (Enc.enc (g_1.2 : List (Int × Int)))])) rfl rfl (Enc.erase_enc (g_1 : (Int × (List (Int × Int))))) ta_nil) (H.c53 _ _ E_r_3) H.g53 rfl rfl rfl rfl ?_
  refine g_v1 (t := 7) (u := (.bool r_3)) (.bool (!r_3)) rfl rfl rfl ?_
  refine g_end ?_
  refine e_end ?_
  refine renew [(1, (Enc.enc (bags_2 : List (List Int)))), (2, (.ref (.bx 2) 0 [] (.agg [(.int .i64 g_1.1), (Enc.enc (g_1.2 : List (Int × Int)))]))), (4, (.bool false)), (5, (.bool false)), (8, (.bool (!r_3)))] ⟨h1, h2, h4, h5, rfl⟩ ?_
  rintro s ⟨h1, h2, h4, h5, h8⟩
  refine .nsq ?_
  refine run_cond (t := (!r_3)) h8 h (fun h => ?_) (fun h => ?_)
  · refine .seq ?_
    refine run_reg ?_
    refine e_end ?_
    refine g_v0 (.bool false) rfl rfl ?_
    refine g_v0 (.bool false) rfl rfl ?_
    refine g_end ?_
    refine e_end ?_
    refine renew [(1, (Enc.enc (bags_2 : List (List Int)))), (2, (.ref (.bx 2) 0 [] (.agg [(.int .i64 g_1.1), (Enc.enc (g_1.2 : List (Int × Int)))]))), (4, (.bool false)), (5, (.bool false))] ⟨h1, h2, rfl, rfl⟩ ?_
    rintro s ⟨h1, h2, h4, h5⟩
    refine .nsq ?_
    refine .ret ?_
    have hr := Option.some.inj h
    subst hr
    exact rrB (res_tmp h4) (res_tmp h5) rfl
  · refine .skip ?_
    refine .nsq ?_
    refine .seq ?_
    refine run_reg ?_
    refine e_end ?_
    refine g_v1 (t := 2) (u := (.ref (.bx 2) 0 [] (.agg [(.int .i64 g_1.1), (Enc.enc (g_1.2 : List (Int × Int)))]))) (.agg [(.int .i64 g_1.1), (Enc.enc (g_1.2 : List (Int × Int)))]) h2 rfl rfl ?_
    refine g_v1 (t := 1) (u := (Enc.enc (bags_2 : List (List Int)))) (Enc.enc (bags_2 : List (List Int))) h1 rfl rfl ?_
    obtain ⟨r_4, E_r_4, h⟩ := bind_some h
    refine g_call (m := 0) (al := false) (r := (Enc.enc (r_4 : Bool))) [Enc.enc (g_1 : (Int × (List (Int × Int)))), Enc.enc (bags_2 : (List (List Int)))] (ta_cons (v := (.agg [(.int .i64 g_1.1), (Enc.enc (g_1.2 : List (Int × Int)))])) rfl rfl (Enc.erase_enc (g_1 : (Int × (List (Int × Int))))) (ta_cons (v := (Enc.enc (bags_2 : List (List Int)))) rfl rfl (Enc.erase_enc (bags_2 : (List (List Int)))) ta_nil)) (H.c54 _ _ _ E_r_4) H.g54 rfl rfl rfl rfl ?_
    refine g_v1 (t := 11) (u := (.bool r_4)) (.bool r_4) rfl rfl rfl ?_
    refine g_v0 (.bool true) rfl rfl ?_
    refine g_end ?_
    refine e_end ?_
    refine renew [(4, (.bool r_4)), (5, (.bool true))] ⟨rfl, rfl⟩ ?_
    rintro s ⟨h4, h5⟩
    refine .nsq ?_
    refine .ret ?_
    have hr := Option.some.inj h
    subst hr
    exact rrB (res_tmp h4) (res_tmp h5) rfl
end
def e23 (F : Nat) : Ent := ⟨23, da (fun (x : ((Int × (List (Int × Int))) × (List (List Int)) × Unit)) => i_IsPathDecomposition F x.1 x.2.1) (fun (r : (Bool × Bool)) => (.tup [Enc.enc (r.1 : Bool), Enc.enc (r.2 : Bool)])), 0, false, selF []⟩
theorem p23 {F : Nat} {x0 : (Int × (List (Int × Int)))} {x1 : (List (List Int))} {r : (Bool × Bool)} (h : i_IsPathDecomposition F x0 x1 = some r) : (e23 F).den [Enc.enc x0, Enc.enc x1] = some (.tup [Enc.enc (r.1 : Bool), Enc.enc (r.2 : Bool)]) := da_put (f := fun (x : ((Int × (List (Int × Int))) × (List (List Int)) × Unit)) => i_IsPathDecomposition F x.1 x.2.1) (t := fun (r : (Bool × Bool)) => (.tup [Enc.enc (r.1 : Bool), Enc.enc (r.2 : Bool)])) (x0, x1, ()) h
theorem o23 {D : Den} {σ : Sig} {F : Nat} (hF : Fits2 Try.prog D σ) (H : H23 D σ F) : (e23 F).Ok Try.prog := by
  refine ⟨fun args r h => ?_, ⟨Try.f23, Try.func23, rfl, rfl⟩⟩
  obtain ⟨⟨x0, x1, _⟩, y, rfl, hy, rfl⟩ := da_open h
  exact contract_run hF (by kernel_rfl) Try.func23 rfl c23 (show 2 ≤ Try.f23.ntmps by decide) (t23 H x0 x1 _ ⟨rfl, rfl⟩ hy)
/- loop.example/g01109/laws.eqIntA2 -/
def A75_2 : AC := (AC.cond (O.t 7) AC.skip (AC.exit 0))
def A75_4 : AC := (AC.cond (O.t 16) (AC.seq (AC.reg [] [(I.mk (some 4) none false (X.v (A.mov (O.k (V.bool false)))))] []) AC.ret) AC.skip)
def A75_5 : AC := (AC.reg [] [(I.mk (some 8) none false (X.v (A.mov (O.t 5)))), (I.mk (some 9) none false (X.v (A.bin BinOp.add (O.t 8) (O.k (V.int IntKind.i64 (Int.ofNat 1)))))), (I.mk (some 5) none false (X.v (A.mov (O.t 9))))] [])
def A75_3 : AC := (AC.seq (AC.block 1 (AC.seq (AC.reg [] [(I.mk (some 10) none false (X.v (A.mov (O.t 5)))), (I.mk (some 11) none false (X.v (A.idxA (O.t 2) (O.t 10) 2 1))), (I.mk (some 12) none false (X.v (A.load Sh.s (O.t 11)))), (I.mk (some 13) none false (X.v (A.mov (O.t 5)))), (I.mk (some 14) none false (X.v (A.idxA (O.t 3) (O.t 13) 2 1))), (I.mk (some 15) none false (X.v (A.load Sh.s (O.t 14)))), (I.mk (some 16) none false (X.v (A.bin BinOp.neq (O.t 12) (O.t 15))))] []) A75_4)) A75_5)
def A75_1 : AC := (AC.seq (AC.seq (AC.reg [] [(I.mk (some 6) none false (X.v (A.mov (O.t 5)))), (I.mk (some 7) none false (X.v (A.bin BinOp.lss (O.t 6) (O.k (V.int IntKind.i64 (Int.ofNat 2))))))] []) A75_2) A75_3)
def A75_6 : AC := (AC.seq (AC.reg [] [(I.mk (some 4) none false (X.v (A.mov (O.k (V.bool true)))))] []) AC.ret)
def A75_8 : AC := (AC.block 0 (AC.loop A75_1))
def A75_7 : AC := (AC.seq (AC.seq (AC.reg [] [(I.mk (some 5) none false (X.v (A.mov (O.k (V.int IntKind.i64 (Int.ofNat 0))))))] []) A75_8) A75_6)
def A75 : AC := (AC.seq (AC.reg [.clr [2, 3]] [(I.mk (some 2) none false (X.box (O.t 0))), (I.mk (some 3) none false (X.box (O.t 1))), (I.mk (some 4) none false (X.v (A.mov (O.k (V.bool false)))))] []) A75_7)
def an75 : List An := [{ id := 0, pre := [.clr [2, 3]], ep := [], lin := [], sp := [] }]
theorem c75 : cC Try.prog Try.f75.ntmps an75 (Try.f75.body.getD .skip) = some A75 := by kernel_rfl
structure H75 (D : Den) (σ : Sig) (F : Nat) : Prop where
  mk ::
abbrev R75 (r : Bool) : (Nat → V) → Prop := RR Try.prog [.tmp 4] 0 false (Enc.enc (r : Bool))
section
variable {D : Den} {σ : Sig} {F : Nat} {r : Bool}
def w_eqIntA2_l1 (F : Nat) (a_1 : (Int × Int)) (b_2 : (Int × Int))  : Nat → Int → Option Bool
  | 0, _ => none
  | k + 1, i_3 =>
    bif decide (i_3 < 2) then
      (idx [a_1.1, a_1.2] i_3).bind fun e_6 =>
      (idx [b_2.1, b_2.2] i_3).bind fun e_7 =>
      bif (e_6 != e_7) then
        some false
      else
        (w_eqIntA2_l1 F a_1 b_2 k) (w64 (i_3 + 1))
    else
      some true
theorem t_f75_l1 (H : H75 D σ F) (a_1 : (Int × Int)) (b_2 : (Int × Int))  : ∀ (k : Nat) (i_3 : Int) (s : Nat → V), Facts [(2, (.ref (.bx 2) 0 [] (.agg [(.int .i64 a_1.1), (.int .i64 a_1.2)]))), (3, (.ref (.bx 3) 0 [] (.agg [(.int .i64 b_2.1), (.int .i64 b_2.2)]))), (4, (.bool false)), (5, (.int .i64 i_3))] s → w_eqIntA2_l1 F a_1 b_2 k i_3 = some r → Run D σ (R75 r) (.run A75_1 [.lp A75_1, .bk 0, .sq A75_6]) s := by
  intro k
  induction k with
  | zero => intro i_3 s _ h; exact nomatch (h : (none : Option _) = some r)
  | succ k ih =>
    intro i_3 s hs h
    rw [w_eqIntA2_l1] at h
    obtain ⟨h2, h3, h4, h5⟩ := hs
    refine .seq ?_
    refine .seq ?_
    refine run_reg ?_
    refine e_end ?_
    refine g_v1 (t := 5) (u := (.int .i64 i_3)) (.int .i64 i_3) h5 rfl rfl ?_
    refine g_v1 (t := 6) (u := (.int .i64 i_3)) (.bool (decide (i_3 < 2))) rfl rfl rfl ?_
    refine g_end ?_
    refine e_end ?_
    refine renew [(2, (.ref (.bx 2) 0 [] (.agg [(.int .i64 a_1.1), (.int .i64 a_1.2)]))), (3, (.ref (.bx 3) 0 [] (.agg [(.int .i64 b_2.1), (.int .i64 b_2.2)]))), (4, (.bool false)), (5, (.int .i64 i_3)), (7, (.bool (decide (i_3 < 2))))] ⟨h2, h3, h4, h5, rfl⟩ ?_
    rintro s ⟨h2, h3, h4, h5, h7⟩
    refine .nsq ?_
    refine run_cond (t := decide (i_3 < 2)) h7 h (fun h => ?_) (fun h => ?_)
    · refine .skip ?_
      refine .nsq ?_
      refine .seq ?_
      refine .block ?_
      refine .seq ?_
      refine run_reg ?_
      refine e_end ?_
      refine g_v1 (t := 5) (u := (.int .i64 i_3)) (.int .i64 i_3) h5 rfl rfl ?_
      obtain ⟨e_6, E_e_6, h⟩ := bind_some h
      refine g_v (.ref (.bx 2) 0 [i_3.toNat] (.int .i64 e_6)) (ev_idxA (xs := [a_1.1, a_1.2]) (a := e_6) (n := i_3) (q := []) h2 rfl E_e_6 rfl rfl rfl) ?_
      refine g_v1 (t := 11) (u := (.ref (.bx 2) 0 [i_3.toNat] (.int .i64 e_6))) (.int .i64 e_6) rfl rfl rfl ?_
      refine g_v1 (t := 5) (u := (.int .i64 i_3)) (.int .i64 i_3) h5 rfl rfl ?_
      obtain ⟨e_7, E_e_7, h⟩ := bind_some h
      refine g_v (.ref (.bx 3) 0 [i_3.toNat] (.int .i64 e_7)) (ev_idxA (xs := [b_2.1, b_2.2]) (a := e_7) (n := i_3) (q := []) h3 rfl E_e_7 rfl rfl rfl) ?_
      refine g_v1 (t := 14) (u := (.ref (.bx 3) 0 [i_3.toNat] (.int .i64 e_7))) (.int .i64 e_7) rfl rfl rfl ?_
      refine g_v2 (t1 := 12) (t2 := 15) (u1 := (.int .i64 e_6)) (u2 := (.int .i64 e_7)) (.bool (e_6 != e_7)) rfl rfl rfl rfl ?_
      refine g_end ?_
      refine e_end ?_
      refine renew [(2, (.ref (.bx 2) 0 [] (.agg [(.int .i64 a_1.1), (.int .i64 a_1.2)]))), (3, (.ref (.bx 3) 0 [] (.agg [(.int .i64 b_2.1), (.int .i64 b_2.2)]))), (4, (.bool false)), (5, (.int .i64 i_3)), (16, (.bool (e_6 != e_7)))] ⟨h2, h3, h4, h5, rfl⟩ ?_
      rintro s ⟨h2, h3, h4, h5, h16⟩
      refine .nsq ?_
      refine run_cond (t := (e_6 != e_7)) h16 h (fun h => ?_) (fun h => ?_)
      · refine .seq ?_
        refine run_reg ?_
        refine e_end ?_
        refine g_v0 (.bool false) rfl rfl ?_
        refine g_end ?_
        refine e_end ?_
        refine renew [(2, (.ref (.bx 2) 0 [] (.agg [(.int .i64 a_1.1), (.int .i64 a_1.2)]))), (3, (.ref (.bx 3) 0 [] (.agg [(.int .i64 b_2.1), (.int .i64 b_2.2)]))), (4, (.bool false)), (5, (.int .i64 i_3))] ⟨h2, h3, rfl, h5⟩ ?_
        rintro s ⟨h2, h3, h4, h5⟩
        refine .nsq ?_
        refine .ret ?_
        have hr := Option.some.inj h
        subst hr
        exact rrA (res_tmp h4) rfl
      · refine .skip ?_
        refine .nbk ?_
        refine .nsq ?_
        refine run_reg ?_
        refine e_end ?_
        refine g_v1 (t := 5) (u := (.int .i64 i_3)) (.int .i64 i_3) h5 rfl rfl ?_
        refine g_v1 (t := 8) (u := (.int .i64 i_3)) (.int .i64 (w64 (i_3 + 1))) rfl rfl rfl ?_
        refine g_v1 (t := 9) (u := (.int .i64 (w64 (i_3 + 1)))) (.int .i64 (w64 (i_3 + 1))) rfl rfl rfl ?_
        refine g_end ?_
        refine e_end ?_
        refine renew [(2, (.ref (.bx 2) 0 [] (.agg [(.int .i64 a_1.1), (.int .i64 a_1.2)]))), (3, (.ref (.bx 3) 0 [] (.agg [(.int .i64 b_2.1), (.int .i64 b_2.2)]))), (4, (.bool false)), (5, (.int .i64 (w64 (i_3 + 1))))] ⟨h2, h3, h4, rfl⟩ ?_
        rintro s ⟨h2, h3, h4, h5⟩
        refine .nlp ?_
        exact ih (w64 (i_3 + 1)) _ ⟨h2, h3, h4, h5⟩ h
    · refine .exit ?_
      refine .esq ?_
      refine .elp ?_
      refine .ebk ?_
      refine .nsq ?_
      refine .seq ?_
      refine run_reg ?_
      refine e_end ?_
      refine g_v0 (.bool true) rfl rfl ?_
      refine g_end ?_
      refine e_end ?_
      refine renew [(4, (.bool true))] rfl ?_
      rintro s h4
      refine .nsq ?_
      refine .ret ?_
      have hr := Option.some.inj h
      subst hr
      exact rrA (res_tmp h4) rfl
def w_eqIntA2 (F : Nat) (a_1 : (Int × Int)) (b_2 : (Int × Int)) : Option Bool :=
  w_eqIntA2_l1 F a_1 b_2 F 0
theorem t75 (H : H75 D σ F) (a_1 : (Int × Int)) (b_2 : (Int × Int)) (s : Nat → V) (hs : Facts [(0, (.agg [(.int .i64 a_1.1), (.int .i64 a_1.2)])), (1, (.agg [(.int .i64 b_2.1), (.int .i64 b_2.2)]))] s) (h : w_eqIntA2 F a_1 b_2 = some r) : Run D σ (R75 r) (.run A75 []) s := by
  unfold w_eqIntA2 at h
  obtain ⟨h0, h1⟩ := hs
  refine .seq ?_
  refine run_reg ?_
  refine e_clr ?_
  refine e_end ?_
  refine g_box (.agg [(.int .i64 a_1.1), (.int .i64 a_1.2)]) (rd_of (keep_clear (s := s) (pk := [2, 3]) h0 rfl (map_agg (maps_cons rfl (maps_cons rfl maps_nil)))) rfl) (gone_clear (s := s) (pk := [2, 3]) (t := 2) rfl) rfl ?_
  refine g_box (.agg [(.int .i64 b_2.1), (.int .i64 b_2.2)]) (rd_of (keep_clear (s := s) (pk := [2, 3]) h1 rfl (map_agg (maps_cons rfl (maps_cons rfl maps_nil)))) rfl) (gone_clear (s := s) (pk := [2, 3]) (t := 3) rfl) rfl ?_
  refine g_v0 (.bool false) rfl rfl ?_
  refine g_end ?_
  refine e_end ?_
  refine renew [(2, (.ref (.bx 2) 0 [] (.agg [(.int .i64 a_1.1), (.int .i64 a_1.2)]))), (3, (.ref (.bx 3) 0 [] (.agg [(.int .i64 b_2.1), (.int .i64 b_2.2)]))), (4, (.bool false))] ⟨rfl, rfl, rfl⟩ ?_
  rintro s ⟨h2, h3, h4⟩
  refine .nsq ?_
  refine .seq ?_
  refine .seq ?_
  refine run_reg ?_
  refine e_end ?_
  refine g_v0 (.int .i64 0) rfl rfl ?_
  refine g_end ?_
  refine e_end ?_
  refine renew [(2, (.ref (.bx 2) 0 [] (.agg [(.int .i64 a_1.1), (.int .i64 a_1.2)]))), (3, (.ref (.bx 3) 0 [] (.agg [(.int .i64 b_2.1), (.int .i64 b_2.2)]))), (4, (.bool false)), (5, (.int .i64 0))] ⟨h2, h3, h4, rfl⟩ ?_
  rintro s ⟨h2, h3, h4, h5⟩
  refine .nsq ?_
  refine .block ?_
  refine .loop ?_
  exact t_f75_l1 H a_1 b_2 F 0 _ ⟨h2, h3, h4, h5⟩ h
end
def e75 (F : Nat) : Ent := ⟨75, da (fun (x : ((Int × Int) × (Int × Int) × Unit)) => w_eqIntA2 F x.1 x.2.1) (fun (r : Bool) => (Enc.enc (r : Bool))), 0, false, selF []⟩
theorem p75 {F : Nat} {x0 : (Int × Int)} {x1 : (Int × Int)} {r : Bool} (h : w_eqIntA2 F x0 x1 = some r) : (e75 F).den [Enc.enc x0, Enc.enc x1] = some (Enc.enc (r : Bool)) := da_put (f := fun (x : ((Int × Int) × (Int × Int) × Unit)) => w_eqIntA2 F x.1 x.2.1) (t := fun (r : Bool) => (Enc.enc (r : Bool))) (x0, x1, ()) h
theorem o75 {D : Den} {σ : Sig} {F : Nat} (hF : Fits2 Try.prog D σ) (H : H75 D σ F) : (e75 F).Ok Try.prog := by
  refine ⟨fun args r h => ?_, ⟨Try.f75, Try.func75, rfl, rfl⟩⟩
  obtain ⟨⟨x0, x1, _⟩, y, rfl, hy, rfl⟩ := da_open h
  exact contract_run hF (by kernel_rfl) Try.func75 rfl c75 (show 2 ≤ Try.f75.ntmps by decide) (t75 H x0 x1 _ ⟨rfl, rfl⟩ hy)
/- loop.example/g01109/laws.eqIntA2S -/
def A48_2 : AC := (AC.cond (O.t 14) AC.skip (AC.exit 0))
def A48_4 : AC := (AC.cond (O.t 26) (AC.seq (AC.reg [] [(I.mk (some 4) none false (X.v (A.mov (O.k (V.bool false)))))] []) AC.ret) AC.skip)
def A48_5 : AC := (AC.reg [] [(I.mk (some 15) none false (X.v (A.mov (O.t 5)))), (I.mk (some 16) none false (X.v (A.bin BinOp.add (O.t 15) (O.k (V.int IntKind.i64 (Int.ofNat 1)))))), (I.mk (some 5) none false (X.v (A.mov (O.t 16))))] [])
def A48_3 : AC := (AC.seq (AC.block 1 (AC.seq (AC.reg [] [(I.mk (some 17) none false (X.v (A.mov (O.t 0)))), (I.mk (some 18) none false (X.v (A.mov (O.t 5)))), (I.mk (some 19) none false (X.v (A.idx (O.t 17) (O.t 18) 2))), (I.mk (some 20) none false (X.v (A.load (Sh.ag [Sh.s, Sh.s]) (O.t 19)))), (I.mk (some 21) none false (X.v (A.mov (O.t 1)))), (I.mk (some 22) none false (X.v (A.mov (O.t 5)))), (I.mk (some 23) none false (X.v (A.idx (O.t 21) (O.t 22) 2))), (I.mk (some 24) none false (X.v (A.load (Sh.ag [Sh.s, Sh.s]) (O.t 23)))), (I.mk (some 25) none false (X.call (O.k (V.fn 75 [] [])) [(O.t 20), (O.t 24)])), (I.mk (some 26) none false (X.v (A.un UnOp.not (O.t 25))))] []) A48_4)) A48_5)
def A48_1 : AC := (AC.seq (AC.seq (AC.reg [] [(I.mk (some 11) none false (X.v (A.mov (O.t 5)))), (I.mk (some 12) none false (X.v (A.mov (O.t 0)))), (I.mk (some 13) none false (X.v (A.len (O.t 12)))), (I.mk (some 14) none false (X.v (A.bin BinOp.lss (O.t 11) (O.t 13))))] []) A48_2) A48_3)
def A48_6 : AC := (AC.seq (AC.reg [] [(I.mk (some 4) none false (X.v (A.mov (O.k (V.bool true)))))] []) AC.ret)
def A48_8 : AC := (AC.cond (O.t 10) (AC.seq (AC.reg [] [(I.mk (some 4) none false (X.v (A.mov (O.k (V.bool false)))))] []) AC.ret) AC.skip)
def A48_10 : AC := (AC.block 0 (AC.loop A48_1))
def A48_9 : AC := (AC.seq (AC.seq (AC.reg [] [(I.mk (some 5) none false (X.v (A.mov (O.k (V.int IntKind.i64 (Int.ofNat 0))))))] []) A48_10) A48_6)
def A48_7 : AC := (AC.seq (AC.seq (AC.reg [] [(I.mk (some 6) none false (X.v (A.mov (O.t 0)))), (I.mk (some 7) none false (X.v (A.len (O.t 6)))), (I.mk (some 8) none false (X.v (A.mov (O.t 1)))), (I.mk (some 9) none false (X.v (A.len (O.t 8)))), (I.mk (some 10) none false (X.v (A.bin BinOp.neq (O.t 7) (O.t 9))))] []) A48_8) A48_9)
def A48 : AC := (AC.seq (AC.reg [] [(I.mk (some 4) none false (X.v (A.mov (O.k (V.bool false)))))] []) A48_7)
def an48 : List An := []
theorem c48 : cC Try.prog Try.f48.ntmps an48 (Try.f48.body.getD .skip) = some A48 := by kernel_rfl
structure H48 (D : Den) (σ : Sig) (F : Nat) : Prop where
  c75 : ∀ (x0 : (Int × Int)) (x1 : (Int × Int)) r, w_eqIntA2 F x0 x1 = some r → D 75 [Enc.enc x0, Enc.enc x1] = some (Enc.enc (r : Bool))
  g75 : σ 75 = some (0, false)
abbrev R48 (r : Bool) : (Nat → V) → Prop := RR Try.prog [.tmp 4] 0 false (Enc.enc (r : Bool))
section
variable {D : Den} {σ : Sig} {F : Nat} {r : Bool}
def w_eqIntA2S_l1 (F : Nat) (a_1 : (List (Int × Int))) (b_2 : (List (Int × Int)))  : Nat → Int → Option Bool
  | 0, _ => none
  | k + 1, i_6 =>
    bif decide (i_6 < (a_1.length : Int)) then
      (idx a_1 i_6).bind fun e_10 =>
      (idx b_2 i_6).bind fun e_11 =>
      (w_eqIntA2 F e_10 e_11).bind fun r_12 =>
      bif (!r_12) then
        some false
      else
        (w_eqIntA2S_l1 F a_1 b_2 k) (w64 (i_6 + 1))
    else
      some true
theorem t_f48_l1 (H : H48 D σ F) (a_1 : (List (Int × Int))) (b_2 : (List (Int × Int)))  : ∀ (k : Nat) (i_6 : Int) (s : Nat → V), Facts [(0, (Enc.enc (a_1 : List (Int × Int)))), (1, (Enc.enc (b_2 : List (Int × Int)))), (4, (.bool false)), (5, (.int .i64 i_6))] s → w_eqIntA2S_l1 F a_1 b_2 k i_6 = some r → Run D σ (R48 r) (.run A48_1 [.lp A48_1, .bk 0, .sq A48_6]) s := by
  intro k
  induction k with
  | zero => intro i_6 s _ h; exact nomatch (h : (none : Option _) = some r)
  | succ k ih =>
    intro i_6 s hs h
    rw [w_eqIntA2S_l1] at h
    obtain ⟨h0, h1, h4, h5⟩ := hs
    refine .seq ?_
    refine .seq ?_
    refine run_reg ?_
    refine e_end ?_
    refine g_v1 (t := 5) (u := (.int .i64 i_6)) (.int .i64 i_6) h5 rfl rfl ?_
    refine g_v1 (t := 0) (u := (Enc.enc (a_1 : List (Int × Int)))) (Enc.enc (a_1 : List (Int × Int))) h0 rfl rfl ?_
    refine g_v (.int .i64 (a_1.length : Int)) (ev_len (xs := a_1) rfl) ?_
    refine g_v2 (t1 := 11) (t2 := 13) (u1 := (.int .i64 i_6)) (u2 := (.int .i64 (a_1.length : Int))) (.bool (decide (i_6 < (a_1.length : Int)))) rfl rfl rfl rfl ?_
    refine g_end ?_
    refine e_end ?_
    refine renew [(0, (Enc.enc (a_1 : List (Int × Int)))), (1, (Enc.enc (b_2 : List (Int × Int)))), (4, (.bool false)), (5, (.int .i64 i_6)), (14, (.bool (decide (i_6 < (a_1.length : Int)))))] ⟨h0, h1, h4, h5, rfl⟩ ?_
    rintro s ⟨h0, h1, h4, h5, h14⟩
    refine .nsq ?_
    refine run_cond (t := decide (i_6 < (a_1.length : Int))) h14 h (fun h => ?_) (fun h => ?_)
    · refine .skip ?_
      refine .nsq ?_
      refine .seq ?_
      refine .block ?_
      refine .seq ?_
      refine run_reg ?_
      refine e_end ?_
      refine g_v1 (t := 0) (u := (Enc.enc (a_1 : List (Int × Int)))) (Enc.enc (a_1 : List (Int × Int))) h0 rfl rfl ?_
      refine g_v1 (t := 5) (u := (.int .i64 i_6)) (.int .i64 i_6) h5 rfl rfl ?_
      obtain ⟨e_10, E_e_10, h⟩ := bind_some h
      refine g_v (.ref .sh 0 [] (.agg [(.int .i64 e_10.1), (.int .i64 e_10.2)])) (ev_idx (t := .sh) (lo := 0) (xs := a_1) rfl rfl E_e_10 rfl rfl) ?_
      refine g_v1 (t := 19) (u := (.ref .sh 0 [] (.agg [(.int .i64 e_10.1), (.int .i64 e_10.2)]))) (.agg [(.int .i64 e_10.1), (.int .i64 e_10.2)]) rfl rfl rfl ?_
      refine g_v1 (t := 1) (u := (Enc.enc (b_2 : List (Int × Int)))) (Enc.enc (b_2 : List (Int × Int))) h1 rfl rfl ?_
      refine g_v1 (t := 5) (u := (.int .i64 i_6)) (.int .i64 i_6) h5 rfl rfl ?_
      obtain ⟨e_11, E_e_11, h⟩ := bind_some h
      refine g_v (.ref .sh 0 [] (.agg [(.int .i64 e_11.1), (.int .i64 e_11.2)])) (ev_idx (t := .sh) (lo := 0) (xs := b_2) rfl rfl E_e_11 rfl rfl) ?_
      refine g_v1 (t := 23) (u := (.ref .sh 0 [] (.agg [(.int .i64 e_11.1), (.int .i64 e_11.2)]))) (.agg [(.int .i64 e_11.1), (.int .i64 e_11.2)]) rfl rfl rfl ?_
      obtain ⟨r_12, E_r_12, h⟩ := bind_some h
      refine g_call (m := 0) (al := false) (r := (Enc.enc (r_12 : Bool))) [Enc.enc (e_10 : (Int × Int)), Enc.enc (e_11 : (Int × Int))] (ta_cons (v := (.agg [(.int .i64 e_10.1), (.int .i64 e_10.2)])) rfl rfl (Enc.erase_enc (e_10 : (Int × Int))) (ta_cons (v := (.agg [(.int .i64 e_11.1), (.int .i64 e_11.2)])) rfl rfl (Enc.erase_enc (e_11 : (Int × Int))) ta_nil)) (H.c75 _ _ _ E_r_12) H.g75 rfl rfl rfl rfl ?_
      refine g_v1 (t := 25) (u := (.bool r_12)) (.bool (!r_12)) rfl rfl rfl ?_
      refine g_end ?_
      refine e_end ?_
      refine renew [(0, (Enc.enc (a_1 : List (Int × Int)))), (1, (Enc.enc (b_2 : List (Int × Int)))), (4, (.bool false)), (5, (.int .i64 i_6)), (26, (.bool (!r_12)))] ⟨h0, h1, h4, h5, rfl⟩ ?_
      rintro s ⟨h0, h1, h4, h5, h26⟩
      refine .nsq ?_
      refine run_cond (t := (!r_12)) h26 h (fun h => ?_) (fun h => ?_)
      · refine .seq ?_
        refine run_reg ?_
        refine e_end ?_
        refine g_v0 (.bool false) rfl rfl ?_
        refine g_end ?_
        refine e_end ?_
        refine renew [(0, (Enc.enc (a_1 : List (Int × Int)))), (1, (Enc.enc (b_2 : List (Int × Int)))), (4, (.bool false)), (5, (.int .i64 i_6))] ⟨h0, h1, rfl, h5⟩ ?_
        rintro s ⟨h0, h1, h4, h5⟩
        refine .nsq ?_
        refine .ret ?_
        have hr := Option.some.inj h
        subst hr
        exact rrA (res_tmp h4) rfl
      · refine .skip ?_
        refine .nbk ?_
        refine .nsq ?_
        refine run_reg ?_
        refine e_end ?_
        refine g_v1 (t := 5) (u := (.int .i64 i_6)) (.int .i64 i_6) h5 rfl rfl ?_
        refine g_v1 (t := 15) (u := (.int .i64 i_6)) (.int .i64 (w64 (i_6 + 1))) rfl rfl rfl ?_
        refine g_v1 (t := 16) (u := (.int .i64 (w64 (i_6 + 1)))) (.int .i64 (w64 (i_6 + 1))) rfl rfl rfl ?_
        refine g_end ?_
        refine e_end ?_
        refine renew [(0, (Enc.enc (a_1 : List (Int × Int)))), (1, (Enc.enc (b_2 : List (Int × Int)))), (4, (.bool false)), (5, (.int .i64 (w64 (i_6 + 1))))] ⟨h0, h1, h4, rfl⟩ ?_
        rintro s ⟨h0, h1, h4, h5⟩
        refine .nlp ?_
        exact ih (w64 (i_6 + 1)) _ ⟨h0, h1, h4, h5⟩ h
    · refine .exit ?_
      refine .esq ?_
      refine .elp ?_
      refine .ebk ?_
      refine .nsq ?_
      refine .seq ?_
      refine run_reg ?_
      refine e_end ?_
      refine g_v0 (.bool true) rfl rfl ?_
      refine g_end ?_
      refine e_end ?_
      refine renew [(4, (.bool true))] rfl ?_
      rintro s h4
      refine .nsq ?_
      refine .ret ?_
      have hr := Option.some.inj h
      subst hr
      exact rrA (res_tmp h4) rfl
def w_eqIntA2S (F : Nat) (a_1 : (List (Int × Int))) (b_2 : (List (Int × Int))) : Option Bool :=
  bif ((a_1.length : Int) != (b_2.length : Int)) then
    some false
  else
    w_eqIntA2S_l1 F a_1 b_2 F 0
theorem t48 (H : H48 D σ F) (a_1 : (List (Int × Int))) (b_2 : (List (Int × Int))) (s : Nat → V) (hs : Facts [(0, (Enc.enc (a_1 : List (Int × Int)))), (1, (Enc.enc (b_2 : List (Int × Int))))] s) (h : w_eqIntA2S F a_1 b_2 = some r) : Run D σ (R48 r) (.run A48 []) s := by
  unfold w_eqIntA2S at h
  obtain ⟨h0, h1⟩ := hs
  refine .seq ?_
  refine run_reg ?_
  refine e_end ?_
  refine g_v0 (.bool false) rfl rfl ?_
  refine g_end ?_
  refine e_end ?_
  refine renew [(0, (Enc.enc (a_1 : List (Int × Int)))), (1, (Enc.enc (b_2 : List (Int × Int)))), (4, (.bool false))] ⟨h0, h1, rfl⟩ ?_
  rintro s ⟨h0, h1, h4⟩
  refine .nsq ?_
  refine .seq ?_
  refine .seq ?_
  refine run_reg ?_
  refine e_end ?_
  refine g_v1 (t := 0) (u := (Enc.enc (a_1 : List (Int × Int)))) (Enc.enc (a_1 : List (Int × Int))) h0 rfl rfl ?_
  refine g_v (.int .i64 (a_1.length : Int)) (ev_len (xs := a_1) rfl) ?_
  refine g_v1 (t := 1) (u := (Enc.enc (b_2 : List (Int × Int)))) (Enc.enc (b_2 : List (Int × Int))) h1 rfl rfl ?_
  refine g_v (.int .i64 (b_2.length : Int)) (ev_len (xs := b_2) rfl) ?_
  refine g_v2 (t1 := 7) (t2 := 9) (u1 := (.int .i64 (a_1.length : Int))) (u2 := (.int .i64 (b_2.length : Int))) (.bool ((a_1.length : Int) != (b_2.length : Int))) rfl rfl rfl rfl ?_
  refine g_end ?_
  refine e_end ?_
  refine renew [(0, (Enc.enc (a_1 : List (Int × Int)))), (1, (Enc.enc (b_2 : List (Int × Int)))), (4, (.bool false)), (10, (.bool ((a_1.length : Int) != (b_2.length : Int))))] ⟨h0, h1, h4, rfl⟩ ?_
  rintro s ⟨h0, h1, h4, h10⟩
  refine .nsq ?_
  refine run_cond (t := ((a_1.length : Int) != (b_2.length : Int))) h10 h (fun h => ?_) (fun h => ?_)
  · refine .seq ?_
    refine run_reg ?_
    refine e_end ?_
    refine g_v0 (.bool false) rfl rfl ?_
    refine g_end ?_
    refine e_end ?_
    refine renew [(0, (Enc.enc (a_1 : List (Int × Int)))), (1, (Enc.enc (b_2 : List (Int × Int)))), (4, (.bool false))] ⟨h0, h1, rfl⟩ ?_
    rintro s ⟨h0, h1, h4⟩
    refine .nsq ?_
    refine .ret ?_
    have hr := Option.some.inj h
    subst hr
    exact rrA (res_tmp h4) rfl
  · refine .skip ?_
    refine .nsq ?_
    refine .seq ?_
    refine .seq ?_
    refine run_reg ?_
    refine e_end ?_
    refine g_v0 (.int .i64 0) rfl rfl ?_
    refine g_end ?_
    refine e_end ?_
    refine renew [(0, (Enc.enc (a_1 : List (Int × Int)))), (1, (Enc.enc (b_2 : List (Int × Int)))), (4, (.bool false)), (5, (.int .i64 0))] ⟨h0, h1, h4, rfl⟩ ?_
    rintro s ⟨h0, h1, h4, h5⟩
    refine .nsq ?_
    refine .block ?_
    refine .loop ?_
    exact t_f48_l1 H a_1 b_2 F 0 _ ⟨h0, h1, h4, h5⟩ h
end
def e48 (F : Nat) : Ent := ⟨48, da (fun (x : ((List (Int × Int)) × (List (Int × Int)) × Unit)) => w_eqIntA2S F x.1 x.2.1) (fun (r : Bool) => (Enc.enc (r : Bool))), 0, false, selF []⟩
theorem p48 {F : Nat} {x0 : (List (Int × Int))} {x1 : (List (Int × Int))} {r : Bool} (h : w_eqIntA2S F x0 x1 = some r) : (e48 F).den [Enc.enc x0, Enc.enc x1] = some (Enc.enc (r : Bool)) := da_put (f := fun (x : ((List (Int × Int)) × (List (Int × Int)) × Unit)) => w_eqIntA2S F x.1 x.2.1) (t := fun (r : Bool) => (Enc.enc (r : Bool))) (x0, x1, ()) h
theorem o48 {D : Den} {σ : Sig} {F : Nat} (hF : Fits2 Try.prog D σ) (H : H48 D σ F) : (e48 F).Ok Try.prog := by
  refine ⟨fun args r h => ?_, ⟨Try.f48, Try.func48, rfl, rfl⟩⟩
  obtain ⟨⟨x0, x1, _⟩, y, rfl, hy, rfl⟩ := da_open h
  exact contract_run hF (by kernel_rfl) Try.func48 rfl c48 (show 2 ≤ Try.f48.ntmps by decide) (t48 H x0 x1 _ ⟨rfl, rfl⟩ hy)
/- loop.example/g01109/laws.eqGraph -/
def A16_2 : AC := (AC.cond (O.t 9) (AC.seq (AC.reg [] [(I.mk (some 4) none false (X.v (A.mov (O.k (V.bool false)))))] []) AC.ret) AC.skip)
def A16_4 : AC := (AC.cond (O.t 15) (AC.seq (AC.reg [] [(I.mk (some 4) none false (X.v (A.mov (O.k (V.bool false)))))] []) AC.ret) AC.skip)
def A16_5 : AC := (AC.seq (AC.reg [] [(I.mk (some 4) none false (X.v (A.mov (O.k (V.bool true)))))] []) AC.ret)
def A16_3 : AC := (AC.seq (AC.seq (AC.reg [] [(I.mk (some 10) none false (X.v (A.fld (O.t 2) 1 1))), (I.mk (some 11) none false (X.v (A.load Sh.p (O.t 10)))), (I.mk (some 12) none false (X.v (A.fld (O.t 3) 1 1))), (I.mk (some 13) none false (X.v (A.load Sh.p (O.t 12)))), (I.mk (some 14) none false (X.call (O.k (V.fn 48 [] [])) [(O.t 11), (O.t 13)])), (I.mk (some 15) none false (X.v (A.un UnOp.not (O.t 14))))] []) A16_4) A16_5)
def A16_1 : AC := (AC.seq (AC.seq (AC.reg [] [(I.mk (some 5) none false (X.v (A.fld (O.t 2) 0 0))), (I.mk (some 6) none false (X.v (A.load Sh.s (O.t 5)))), (I.mk (some 7) none false (X.v (A.fld (O.t 3) 0 0))), (I.mk (some 8) none false (X.v (A.load Sh.s (O.t 7)))), (I.mk (some 9) none false (X.v (A.bin BinOp.neq (O.t 6) (O.t 8))))] []) A16_2) A16_3)
def A16 : AC := (AC.seq (AC.reg [.clr [2, 3]] [(I.mk (some 2) none false (X.box (O.t 0))), (I.mk (some 3) none false (X.box (O.t 1))), (I.mk (some 4) none false (X.v (A.mov (O.k (V.bool false)))))] []) A16_1)
def an16 : List An := [{ id := 0, pre := [.clr [2, 3]], ep := [], lin := [], sp := [] }]
theorem c16 : cC Try.prog Try.f16.ntmps an16 (Try.f16.body.getD .skip) = some A16 := by kernel_rfl
structure H16 (D : Den) (σ : Sig) (F : Nat) : Prop where
  c48 : ∀ (x0 : (List (Int × Int))) (x1 : (List (Int × Int))) r, w_eqIntA2S F x0 x1 = some r → D 48 [Enc.enc x0, Enc.enc x1] = some (Enc.enc (r : Bool))
  g48 : σ 48 = some (0, false)
abbrev R16 (r : Bool) : (Nat → V) → Prop := RR Try.prog [.tmp 4] 0 false (Enc.enc (r : Bool))
section
variable {D : Den} {σ : Sig} {F : Nat} {r : Bool}
def w_eqGraph (F : Nat) (a_1 : (Int × (List (Int × Int)))) (b_2 : (Int × (List (Int × Int)))) : Option Bool :=
  bif (a_1.1 != b_2.1) then
    some false
  else
    (w_eqIntA2S F a_1.2 b_2.2).bind fun r_3 =>
    bif (!r_3) then
      some false
    else
      some true
theorem t16 (H : H16 D σ F) (a_1 : (Int × (List (Int × Int)))) (b_2 : (Int × (List (Int × Int)))) (s : Nat → V) (hs : Facts [(0, (.agg [(.int .i64 a_1.1), (Enc.enc (a_1.2 : List (Int × Int)))])), (1, (.agg [(.int .i64 b_2.1), (Enc.enc (b_2.2 : List (Int × Int)))]))] s) (h : w_eqGraph F a_1 b_2 = some r) : Run D σ (R16 r) (.run A16 []) s := by
  unfold w_eqGraph at h
  obtain ⟨h0, h1⟩ := hs
  refine .seq ?_
  refine run_reg ?_
  refine e_clr ?_
  refine e_end ?_
  refine g_box (.agg [(.int .i64 a_1.1), (Enc.enc (a_1.2 : List (Int × Int)))]) (rd_of (keep_clear (s := s) (pk := [2, 3]) h0 rfl (map_agg (maps_cons rfl (maps_cons (Enc.map_enc _ (a_1.2 : List (Int × Int))) maps_nil)))) rfl) (gone_clear (s := s) (pk := [2, 3]) (t := 2) rfl) rfl ?_
  refine g_box (.agg [(.int .i64 b_2.1), (Enc.enc (b_2.2 : List (Int × Int)))]) (rd_of (keep_clear (s := s) (pk := [2, 3]) h1 rfl (map_agg (maps_cons rfl (maps_cons (Enc.map_enc _ (b_2.2 : List (Int × Int))) maps_nil)))) rfl) (gone_clear (s := s) (pk := [2, 3]) (t := 3) rfl) rfl ?_
  refine g_v0 (.bool false) rfl rfl ?_
  refine g_end ?_
  refine e_end ?_
  refine renew [(2, (.ref (.bx 2) 0 [] (.agg [(.int .i64 a_1.1), (Enc.enc (a_1.2 : List (Int × Int)))]))), (3, (.ref (.bx 3) 0 [] (.agg [(.int .i64 b_2.1), (Enc.enc (b_2.2 : List (Int × Int)))]))), (4, (.bool false))] ⟨rfl, rfl, rfl⟩ ?_
  rintro s ⟨h2, h3, h4⟩
  refine .nsq ?_
  refine .seq ?_
  refine .seq ?_
  refine run_reg ?_
  refine e_end ?_
  refine g_v1 (t := 2) (u := (.ref (.bx 2) 0 [] (.agg [(.int .i64 a_1.1), (Enc.enc (a_1.2 : List (Int × Int)))]))) (.ref (.bx 2) 0 [0] (.int .i64 a_1.1)) h2 rfl rfl ?_
  refine g_v1 (t := 5) (u := (.ref (.bx 2) 0 [0] (.int .i64 a_1.1))) (.int .i64 a_1.1) rfl rfl rfl ?_
  refine g_v1 (t := 3) (u := (.ref (.bx 3) 0 [] (.agg [(.int .i64 b_2.1), (Enc.enc (b_2.2 : List (Int × Int)))]))) (.ref (.bx 3) 0 [0] (.int .i64 b_2.1)) h3 rfl rfl ?_
  refine g_v1 (t := 7) (u := (.ref (.bx 3) 0 [0] (.int .i64 b_2.1))) (.int .i64 b_2.1) rfl rfl rfl ?_
  refine g_v2 (t1 := 6) (t2 := 8) (u1 := (.int .i64 a_1.1)) (u2 := (.int .i64 b_2.1)) (.bool (a_1.1 != b_2.1)) rfl rfl rfl rfl ?_
  refine g_end ?_
  refine e_end ?_
  refine renew [(2, (.ref (.bx 2) 0 [] (.agg [(.int .i64 a_1.1), (Enc.enc (a_1.2 : List (Int × Int)))]))), (3, (.ref (.bx 3) 0 [] (.agg [(.int .i64 b_2.1), (Enc.enc (b_2.2 : List (Int × Int)))]))), (4, (.bool false)), (9, (.bool (a_1.1 != b_2.1)))] ⟨h2, h3, h4, rfl⟩ ?_
  rintro s ⟨h2, h3, h4, h9⟩
  refine .nsq ?_
  refine run_cond (t := (a_1.1 != b_2.1)) h9 h (fun h => ?_) (fun h => ?_)
  · refine .seq ?_
    refine run_reg ?_
    refine e_end ?_
    refine g_v0 (.bool false) rfl rfl ?_
    refine g_end ?_
    refine e_end ?_
    refine renew [(2, (.ref (.bx 2) 0 [] (.agg [(.int .i64 a_1.1), (Enc.enc (a_1.2 : List (Int × Int)))]))), (3, (.ref (.bx 3) 0 [] (.agg [(.int .i64 b_2.1), (Enc.enc (b_2.2 : List (Int × Int)))]))), (4, (.bool false))] ⟨h2, h3, rfl⟩ ?_
    rintro s ⟨h2, h3, h4⟩
    refine .nsq ?_
    refine .ret ?_
    have hr := Option.some.inj h
    subst hr
    exact rrA (res_tmp h4) rfl
  · refine .skip ?_
    refine .nsq ?_
    refine .seq ?_
    refine .seq ?_
    refine run_reg ?_
    refine e_end ?_
    refine g_v1 (t := 2) (u := (.ref (.bx 2) 0 [] (.agg [(.int .i64 a_1.1), (Enc.enc (a_1.2 : List (Int × Int)))]))) (.ref (.bx 2) 0 [1] (Enc.enc (a_1.2 : List (Int × Int)))) h2 rfl rfl ?_
    refine g_v1 (t := 10) (u := (.ref (.bx 2) 0 [1] (Enc.enc (a_1.2 : List (Int × Int))))) (Enc.enc (a_1.2 : List (Int × Int))) rfl rfl rfl ?_
    refine g_v1 (t := 3) (u := (.ref (.bx 3) 0 [] (.agg [(.int .i64 b_2.1), (Enc.enc (b_2.2 : List (Int × Int)))]))) (.ref (.bx 3) 0 [1] (Enc.enc (b_2.2 : List (Int × Int)))) h3 rfl rfl ?_
    refine g_v1 (t := 12) (u := (.ref (.bx 3) 0 [1] (Enc.enc (b_2.2 : List (Int × Int))))) (Enc.enc (b_2.2 : List (Int × Int))) rfl rfl rfl ?_
    obtain ⟨r_3, E_r_3, h⟩ := bind_some h
    refine g_call (m := 0) (al := false) (r := (Enc.enc (r_3 : Bool))) [Enc.enc (a_1.2 : (List (Int × Int))), Enc.enc (b_2.2 : (List (Int × Int)))] (ta_cons (v := (Enc.enc (a_1.2 : List (Int × Int)))) rfl rfl (Enc.erase_enc (a_1.2 : (List (Int × Int)))) (ta_cons (v := (Enc.enc (b_2.2 : List (Int × Int)))) rfl rfl (Enc.erase_enc (b_2.2 : (List (Int × Int)))) ta_nil)) (H.c48 _ _ _ E_r_3) H.g48 rfl rfl rfl rfl ?_
    refine g_v1 (t := 14) (u := (.bool r_3)) (.bool (!r_3)) rfl rfl rfl ?_
    refine g_end ?_
    refine e_end ?_
    refine renew [(4, (.bool false)), (15, (.bool (!r_3)))] ⟨h4, rfl⟩ ?_
    rintro s ⟨h4, h15⟩
    refine .nsq ?_
    refine run_cond (t := (!r_3)) h15 h (fun h => ?_) (fun h => ?_)
    · refine .seq ?_
      refine run_reg ?_
      refine e_end ?_
      refine g_v0 (.bool false) rfl rfl ?_
      refine g_end ?_
      refine e_end ?_
      refine renew [(4, (.bool false))] rfl ?_
      rintro s h4
      refine .nsq ?_
      refine .ret ?_
      have hr := Option.some.inj h
      subst hr
      exact rrA (res_tmp h4) rfl
    · refine .skip ?_
      refine .nsq ?_
      refine .seq ?_
      refine run_reg ?_
      refine e_end ?_
      refine g_v0 (.bool true) rfl rfl ?_
      refine g_end ?_
      refine e_end ?_
      refine renew [(4, (.bool true))] rfl ?_
      rintro s h4
      refine .nsq ?_
      refine .ret ?_
      have hr := Option.some.inj h
      subst hr
      exact rrA (res_tmp h4) rfl
end
def e16 (F : Nat) : Ent := ⟨16, da (fun (x : ((Int × (List (Int × Int))) × (Int × (List (Int × Int))) × Unit)) => w_eqGraph F x.1 x.2.1) (fun (r : Bool) => (Enc.enc (r : Bool))), 0, false, selF []⟩
theorem p16 {F : Nat} {x0 : (Int × (List (Int × Int)))} {x1 : (Int × (List (Int × Int)))} {r : Bool} (h : w_eqGraph F x0 x1 = some r) : (e16 F).den [Enc.enc x0, Enc.enc x1] = some (Enc.enc (r : Bool)) := da_put (f := fun (x : ((Int × (List (Int × Int))) × (Int × (List (Int × Int))) × Unit)) => w_eqGraph F x.1 x.2.1) (t := fun (r : Bool) => (Enc.enc (r : Bool))) (x0, x1, ()) h
theorem o16 {D : Den} {σ : Sig} {F : Nat} (hF : Fits2 Try.prog D σ) (H : H16 D σ F) : (e16 F).Ok Try.prog := by
  refine ⟨fun args r h => ?_, ⟨Try.f16, Try.func16, rfl, rfl⟩⟩
  obtain ⟨⟨x0, x1, _⟩, y, rfl, hy, rfl⟩ := da_open h
  exact contract_run hF (by kernel_rfl) Try.func16 rfl c16 (show 2 ≤ Try.f16.ntmps by decide) (t16 H x0 x1 _ ⟨rfl, rfl⟩ hy)
/- loop.example/g01109/laws.eqIntS -/
def A17_2 : AC := (AC.cond (O.t 14) AC.skip (AC.exit 0))
def A17_4 : AC := (AC.cond (O.t 25) (AC.seq (AC.reg [] [(I.mk (some 4) none false (X.v (A.mov (O.k (V.bool false)))))] []) AC.ret) AC.skip)
def A17_5 : AC := (AC.reg [] [(I.mk (some 15) none false (X.v (A.mov (O.t 5)))), (I.mk (some 16) none false (X.v (A.bin BinOp.add (O.t 15) (O.k (V.int IntKind.i64 (Int.ofNat 1)))))), (I.mk (some 5) none false (X.v (A.mov (O.t 16))))] [])
def A17_3 : AC := (AC.seq (AC.block 1 (AC.seq (AC.reg [] [(I.mk (some 17) none false (X.v (A.mov (O.t 0)))), (I.mk (some 18) none false (X.v (A.mov (O.t 5)))), (I.mk (some 19) none false (X.v (A.idx (O.t 17) (O.t 18) 1))), (I.mk (some 20) none false (X.v (A.load Sh.s (O.t 19)))), (I.mk (some 21) none false (X.v (A.mov (O.t 1)))), (I.mk (some 22) none false (X.v (A.mov (O.t 5)))), (I.mk (some 23) none false (X.v (A.idx (O.t 21) (O.t 22) 1))), (I.mk (some 24) none false (X.v (A.load Sh.s (O.t 23)))), (I.mk (some 25) none false (X.v (A.bin BinOp.neq (O.t 20) (O.t 24))))] []) A17_4)) A17_5)
def A17_1 : AC := (AC.seq (AC.seq (AC.reg [] [(I.mk (some 11) none false (X.v (A.mov (O.t 5)))), (I.mk (some 12) none false (X.v (A.mov (O.t 0)))), (I.mk (some 13) none false (X.v (A.len (O.t 12)))), (I.mk (some 14) none false (X.v (A.bin BinOp.lss (O.t 11) (O.t 13))))] []) A17_2) A17_3)
def A17_6 : AC := (AC.seq (AC.reg [] [(I.mk (some 4) none false (X.v (A.mov (O.k (V.bool true)))))] []) AC.ret)
def A17_8 : AC := (AC.cond (O.t 10) (AC.seq (AC.reg [] [(I.mk (some 4) none false (X.v (A.mov (O.k (V.bool false)))))] []) AC.ret) AC.skip)
def A17_10 : AC := (AC.block 0 (AC.loop A17_1))
def A17_9 : AC := (AC.seq (AC.seq (AC.reg [] [(I.mk (some 5) none false (X.v (A.mov (O.k (V.int IntKind.i64 (Int.ofNat 0))))))] []) A17_10) A17_6)
def A17_7 : AC := (AC.seq (AC.seq (AC.reg [] [(I.mk (some 6) none false (X.v (A.mov (O.t 0)))), (I.mk (some 7) none false (X.v (A.len (O.t 6)))), (I.mk (some 8) none false (X.v (A.mov (O.t 1)))), (I.mk (some 9) none false (X.v (A.len (O.t 8)))), (I.mk (some 10) none false (X.v (A.bin BinOp.neq (O.t 7) (O.t 9))))] []) A17_8) A17_9)
def A17 : AC := (AC.seq (AC.reg [] [(I.mk (some 4) none false (X.v (A.mov (O.k (V.bool false)))))] []) A17_7)
def an17 : List An := []
theorem c17 : cC Try.prog Try.f17.ntmps an17 (Try.f17.body.getD .skip) = some A17 := by kernel_rfl
structure H17 (D : Den) (σ : Sig) (F : Nat) : Prop where
  mk ::
abbrev R17 (r : Bool) : (Nat → V) → Prop := RR Try.prog [.tmp 4] 0 false (Enc.enc (r : Bool))
section
variable {D : Den} {σ : Sig} {F : Nat} {r : Bool}
def w_eqIntS_l1 (F : Nat) (a_1 : (List Int)) (b_2 : (List Int))  : Nat → Int → Option Bool
  | 0, _ => none
  | k + 1, i_5 =>
    bif decide (i_5 < (a_1.length : Int)) then
      (idx a_1 i_5).bind fun e_8 =>
      (idx b_2 i_5).bind fun e_9 =>
      bif (e_8 != e_9) then
        some false
      else
        (w_eqIntS_l1 F a_1 b_2 k) (w64 (i_5 + 1))
    else
      some true
theorem t_f17_l1 (H : H17 D σ F) (a_1 : (List Int)) (b_2 : (List Int))  : ∀ (k : Nat) (i_5 : Int) (s : Nat → V), Facts [(0, (Enc.enc (a_1 : List Int))), (1, (Enc.enc (b_2 : List Int))), (4, (.bool false)), (5, (.int .i64 i_5))] s → w_eqIntS_l1 F a_1 b_2 k i_5 = some r → Run D σ (R17 r) (.run A17_1 [.lp A17_1, .bk 0, .sq A17_6]) s := by
  intro k
  induction k with
  | zero => intro i_5 s _ h; exact nomatch (h : (none : Option _) = some r)
  | succ k ih =>
    intro i_5 s hs h
    rw [w_eqIntS_l1] at h
    obtain ⟨h0, h1, h4, h5⟩ := hs
    refine .seq ?_
    refine .seq ?_
    refine run_reg ?_
    refine e_end ?_
    refine g_v1 (t := 5) (u := (.int .i64 i_5)) (.int .i64 i_5) h5 rfl rfl ?_
    refine g_v1 (t := 0) (u := (Enc.enc (a_1 : List Int))) (Enc.enc (a_1 : List Int)) h0 rfl rfl ?_
    refine g_v (.int .i64 (a_1.length : Int)) (ev_len (xs := a_1) rfl) ?_
    refine g_v2 (t1 := 11) (t2 := 13) (u1 := (.int .i64 i_5)) (u2 := (.int .i64 (a_1.length : Int))) (.bool (decide (i_5 < (a_1.length : Int)))) rfl rfl rfl rfl ?_
    refine g_end ?_
    refine e_end ?_
    refine renew [(0, (Enc.enc (a_1 : List Int))), (1, (Enc.enc (b_2 : List Int))), (4, (.bool false)), (5, (.int .i64 i_5)), (14, (.bool (decide (i_5 < (a_1.length : Int)))))] ⟨h0, h1, h4, h5, rfl⟩ ?_
    rintro s ⟨h0, h1, h4, h5, h14⟩
    refine .nsq ?_
    refine run_cond (t := decide (i_5 < (a_1.length : Int))) h14 h (fun h => ?_) (fun h => ?_)
    · refine .skip ?_
      refine .nsq ?_
      refine .seq ?_
      refine .block ?_
      refine .seq ?_
      refine run_reg ?_
      refine e_end ?_
      refine g_v1 (t := 0) (u := (Enc.enc (a_1 : List Int))) (Enc.enc (a_1 : List Int)) h0 rfl rfl ?_
      refine g_v1 (t := 5) (u := (.int .i64 i_5)) (.int .i64 i_5) h5 rfl rfl ?_
      obtain ⟨e_8, E_e_8, h⟩ := bind_some h
      refine g_v (.ref .sh 0 [] (.int .i64 e_8)) (ev_idx (t := .sh) (lo := 0) (xs := a_1) rfl rfl E_e_8 rfl rfl) ?_
      refine g_v1 (t := 19) (u := (.ref .sh 0 [] (.int .i64 e_8))) (.int .i64 e_8) rfl rfl rfl ?_
      refine g_v1 (t := 1) (u := (Enc.enc (b_2 : List Int))) (Enc.enc (b_2 : List Int)) h1 rfl rfl ?_
      refine g_v1 (t := 5) (u := (.int .i64 i_5)) (.int .i64 i_5) h5 rfl rfl ?_
      obtain ⟨e_9, E_e_9, h⟩ := bind_some h
      refine g_v (.ref .sh 0 [] (.int .i64 e_9)) (ev_idx (t := .sh) (lo := 0) (xs := b_2) rfl rfl E_e_9 rfl rfl) ?_
      refine g_v1 (t := 23) (u := (.ref .sh 0 [] (.int .i64 e_9))) (.int .i64 e_9) rfl rfl rfl ?_
      refine g_v2 (t1 := 20) (t2 := 24) (u1 := (.int .i64 e_8)) (u2 := (.int .i64 e_9)) (.bool (e_8 != e_9)) rfl rfl rfl rfl ?_
      refine g_end ?_
      refine e_end ?_
      refine renew [(0, (Enc.enc (a_1 : List Int))), (1, (Enc.enc (b_2 : List Int))), (4, (.bool false)), (5, (.int .i64 i_5)), (25, (.bool (e_8 != e_9)))] ⟨h0, h1, h4, h5, rfl⟩ ?_
      rintro s ⟨h0, h1, h4, h5, h25⟩
      refine .nsq ?_
      refine run_cond (t := (e_8 != e_9)) h25 h (fun h => ?_) (fun h => ?_)
      · refine .seq ?_
        refine run_reg ?_
        refine e_end ?_
        refine g_v0 (.bool false) rfl rfl ?_
        refine g_end ?_
        refine e_end ?_
        refine renew [(0, (Enc.enc (a_1 : List Int))), (1, (Enc.enc (b_2 : List Int))), (4, (.bool false)), (5, (.int .i64 i_5))] ⟨h0, h1, rfl, h5⟩ ?_
        rintro s ⟨h0, h1, h4, h5⟩
        refine .nsq ?_
        refine .ret ?_
        have hr := Option.some.inj h
        subst hr
        exact rrA (res_tmp h4) rfl
      · refine .skip ?_
        refine .nbk ?_
        refine .nsq ?_
        refine run_reg ?_
        refine e_end ?_
        refine g_v1 (t := 5) (u := (.int .i64 i_5)) (.int .i64 i_5) h5 rfl rfl ?_
        refine g_v1 (t := 15) (u := (.int .i64 i_5)) (.int .i64 (w64 (i_5 + 1))) rfl rfl rfl ?_
        refine g_v1 (t := 16) (u := (.int .i64 (w64 (i_5 + 1)))) (.int .i64 (w64 (i_5 + 1))) rfl rfl rfl ?_
        refine g_end ?_
        refine e_end ?_
        refine renew [(0, (Enc.enc (a_1 : List Int))), (1, (Enc.enc (b_2 : List Int))), (4, (.bool false)), (5, (.int .i64 (w64 (i_5 + 1))))] ⟨h0, h1, h4, rfl⟩ ?_
        rintro s ⟨h0, h1, h4, h5⟩
        refine .nlp ?_
        exact ih (w64 (i_5 + 1)) _ ⟨h0, h1, h4, h5⟩ h
    · refine .exit ?_
      refine .esq ?_
      refine .elp ?_
      refine .ebk ?_
      refine .nsq ?_
      refine .seq ?_
      refine run_reg ?_
      refine e_end ?_
      refine g_v0 (.bool true) rfl rfl ?_
      refine g_end ?_
      refine e_end ?_
      refine renew [(4, (.bool true))] rfl ?_
      rintro s h4
      refine .nsq ?_
      refine .ret ?_
      have hr := Option.some.inj h
      subst hr
      exact rrA (res_tmp h4) rfl
def w_eqIntS (F : Nat) (a_1 : (List Int)) (b_2 : (List Int)) : Option Bool :=
  bif ((a_1.length : Int) != (b_2.length : Int)) then
    some false
  else
    w_eqIntS_l1 F a_1 b_2 F 0
theorem t17 (H : H17 D σ F) (a_1 : (List Int)) (b_2 : (List Int)) (s : Nat → V) (hs : Facts [(0, (Enc.enc (a_1 : List Int))), (1, (Enc.enc (b_2 : List Int)))] s) (h : w_eqIntS F a_1 b_2 = some r) : Run D σ (R17 r) (.run A17 []) s := by
  unfold w_eqIntS at h
  obtain ⟨h0, h1⟩ := hs
  refine .seq ?_
  refine run_reg ?_
  refine e_end ?_
  refine g_v0 (.bool false) rfl rfl ?_
  refine g_end ?_
  refine e_end ?_
  refine renew [(0, (Enc.enc (a_1 : List Int))), (1, (Enc.enc (b_2 : List Int))), (4, (.bool false))] ⟨h0, h1, rfl⟩ ?_
  rintro s ⟨h0, h1, h4⟩
  refine .nsq ?_
  refine .seq ?_
  refine .seq ?_
  refine run_reg ?_
  refine e_end ?_
  refine g_v1 (t := 0) (u := (Enc.enc (a_1 : List Int))) (Enc.enc (a_1 : List Int)) h0 rfl rfl ?_
  refine g_v (.int .i64 (a_1.length : Int)) (ev_len (xs := a_1) rfl) ?_
  refine g_v1 (t := 1) (u := (Enc.enc (b_2 : List Int))) (Enc.enc (b_2 : List Int)) h1 rfl rfl ?_
  refine g_v (.int .i64 (b_2.length : Int)) (ev_len (xs := b_2) rfl) ?_
  refine g_v2 (t1 := 7) (t2 := 9) (u1 := (.int .i64 (a_1.length : Int))) (u2 := (.int .i64 (b_2.length : Int))) (.bool ((a_1.length : Int) != (b_2.length : Int))) rfl rfl rfl rfl ?_
  refine g_end ?_
  refine e_end ?_
  refine renew [(0, (Enc.enc (a_1 : List Int))), (1, (Enc.enc (b_2 : List Int))), (4, (.bool false)), (10, (.bool ((a_1.length : Int) != (b_2.length : Int))))] ⟨h0, h1, h4, rfl⟩ ?_
  rintro s ⟨h0, h1, h4, h10⟩
  refine .nsq ?_
  refine run_cond (t := ((a_1.length : Int) != (b_2.length : Int))) h10 h (fun h => ?_) (fun h => ?_)
  · refine .seq ?_
    refine run_reg ?_
    refine e_end ?_
    refine g_v0 (.bool false) rfl rfl ?_
    refine g_end ?_
    refine e_end ?_
    refine renew [(0, (Enc.enc (a_1 : List Int))), (1, (Enc.enc (b_2 : List Int))), (4, (.bool false))] ⟨h0, h1, rfl⟩ ?_
    rintro s ⟨h0, h1, h4⟩
    refine .nsq ?_
    refine .ret ?_
    have hr := Option.some.inj h
    subst hr
    exact rrA (res_tmp h4) rfl
  · refine .skip ?_
    refine .nsq ?_
    refine .seq ?_
    refine .seq ?_
    refine run_reg ?_
    refine e_end ?_
    refine g_v0 (.int .i64 0) rfl rfl ?_
    refine g_end ?_
    refine e_end ?_
    refine renew [(0, (Enc.enc (a_1 : List Int))), (1, (Enc.enc (b_2 : List Int))), (4, (.bool false)), (5, (.int .i64 0))] ⟨h0, h1, h4, rfl⟩ ?_
    rintro s ⟨h0, h1, h4, h5⟩
    refine .nsq ?_
    refine .block ?_
    refine .loop ?_
    exact t_f17_l1 H a_1 b_2 F 0 _ ⟨h0, h1, h4, h5⟩ h
end
def e17 (F : Nat) : Ent := ⟨17, da (fun (x : ((List Int) × (List Int) × Unit)) => w_eqIntS F x.1 x.2.1) (fun (r : Bool) => (Enc.enc (r : Bool))), 0, false, selF []⟩
theorem p17 {F : Nat} {x0 : (List Int)} {x1 : (List Int)} {r : Bool} (h : w_eqIntS F x0 x1 = some r) : (e17 F).den [Enc.enc x0, Enc.enc x1] = some (Enc.enc (r : Bool)) := da_put (f := fun (x : ((List Int) × (List Int) × Unit)) => w_eqIntS F x.1 x.2.1) (t := fun (r : Bool) => (Enc.enc (r : Bool))) (x0, x1, ()) h
theorem o17 {D : Den} {σ : Sig} {F : Nat} (hF : Fits2 Try.prog D σ) (H : H17 D σ F) : (e17 F).Ok Try.prog := by
  refine ⟨fun args r h => ?_, ⟨Try.f17, Try.func17, rfl, rfl⟩⟩
  obtain ⟨⟨x0, x1, _⟩, y, rfl, hy, rfl⟩ := da_open h
  exact contract_run hF (by kernel_rfl) Try.func17 rfl c17 (show 2 ≤ Try.f17.ntmps by decide) (t17 H x0 x1 _ ⟨rfl, rfl⟩ hy)
/- loop.example/g01109/laws.eqIntSS -/
def A24_2 : AC := (AC.cond (O.t 14) AC.skip (AC.exit 0))
def A24_4 : AC := (AC.cond (O.t 26) (AC.seq (AC.reg [] [(I.mk (some 4) none false (X.v (A.mov (O.k (V.bool false)))))] []) AC.ret) AC.skip)
def A24_5 : AC := (AC.reg [] [(I.mk (some 15) none false (X.v (A.mov (O.t 5)))), (I.mk (some 16) none false (X.v (A.bin BinOp.add (O.t 15) (O.k (V.int IntKind.i64 (Int.ofNat 1)))))), (I.mk (some 5) none false (X.v (A.mov (O.t 16))))] [])
def A24_3 : AC := (AC.seq (AC.block 1 (AC.seq (AC.reg [] [(I.mk (some 17) none false (X.v (A.mov (O.t 0)))), (I.mk (some 18) none false (X.v (A.mov (O.t 5)))), (I.mk (some 19) none false (X.v (A.idx (O.t 17) (O.t 18) 1))), (I.mk (some 20) none false (X.v (A.load Sh.p (O.t 19)))), (I.mk (some 21) none false (X.v (A.mov (O.t 1)))), (I.mk (some 22) none false (X.v (A.mov (O.t 5)))), (I.mk (some 23) none false (X.v (A.idx (O.t 21) (O.t 22) 1))), (I.mk (some 24) none false (X.v (A.load Sh.p (O.t 23)))), (I.mk (some 25) none false (X.call (O.k (V.fn 17 [] [])) [(O.t 20), (O.t 24)])), (I.mk (some 26) none false (X.v (A.un UnOp.not (O.t 25))))] []) A24_4)) A24_5)
def A24_1 : AC := (AC.seq (AC.seq (AC.reg [] [(I.mk (some 11) none false (X.v (A.mov (O.t 5)))), (I.mk (some 12) none false (X.v (A.mov (O.t 0)))), (I.mk (some 13) none false (X.v (A.len (O.t 12)))), (I.mk (some 14) none false (X.v (A.bin BinOp.lss (O.t 11) (O.t 13))))] []) A24_2) A24_3)
def A24_6 : AC := (AC.seq (AC.reg [] [(I.mk (some 4) none false (X.v (A.mov (O.k (V.bool true)))))] []) AC.ret)
def A24_8 : AC := (AC.cond (O.t 10) (AC.seq (AC.reg [] [(I.mk (some 4) none false (X.v (A.mov (O.k (V.bool false)))))] []) AC.ret) AC.skip)
def A24_10 : AC := (AC.block 0 (AC.loop A24_1))
def A24_9 : AC := (AC.seq (AC.seq (AC.reg [] [(I.mk (some 5) none false (X.v (A.mov (O.k (V.int IntKind.i64 (Int.ofNat 0))))))] []) A24_10) A24_6)
def A24_7 : AC := (AC.seq (AC.seq (AC.reg [] [(I.mk (some 6) none false (X.v (A.mov (O.t 0)))), (I.mk (some 7) none false (X.v (A.len (O.t 6)))), (I.mk (some 8) none false (X.v (A.mov (O.t 1)))), (I.mk (some 9) none false (X.v (A.len (O.t 8)))), (I.mk (some 10) none false (X.v (A.bin BinOp.neq (O.t 7) (O.t 9))))] []) A24_8) A24_9)
def A24 : AC := (AC.seq (AC.reg [] [(I.mk (some 4) none false (X.v (A.mov (O.k (V.bool false)))))] []) A24_7)
def an24 : List An := []
theorem c24 : cC Try.prog Try.f24.ntmps an24 (Try.f24.body.getD .skip) = some A24 := by kernel_rfl
structure H24 (D : Den) (σ : Sig) (F : Nat) : Prop where
  c17 : ∀ (x0 : (List Int)) (x1 : (List Int)) r, w_eqIntS F x0 x1 = some r → D 17 [Enc.enc x0, Enc.enc x1] = some (Enc.enc (r : Bool))
  g17 : σ 17 = some (0, false)
abbrev R24 (r : Bool) : (Nat → V) → Prop := RR Try.prog [.tmp 4] 0 false (Enc.enc (r : Bool))
section
variable {D : Den} {σ : Sig} {F : Nat} {r : Bool}
def w_eqIntSS_l1 (F : Nat) (a_1 : (List (List Int))) (b_2 : (List (List Int)))  : Nat → Int → Option Bool
  | 0, _ => none
  | k + 1, i_6 =>
    bif decide (i_6 < (a_1.length : Int)) then
      (idx a_1 i_6).bind fun e_10 =>
      (idx b_2 i_6).bind fun e_11 =>
      (w_eqIntS F e_10 e_11).bind fun r_12 =>
      bif (!r_12) then
        some false
      else
        (w_eqIntSS_l1 F a_1 b_2 k) (w64 (i_6 + 1))
    else
      some true
theorem t_f24_l1 (H : H24 D σ F) (a_1 : (List (List Int))) (b_2 : (List (List Int)))  : ∀ (k : Nat) (i_6 : Int) (s : Nat → V), Facts [(0, (Enc.enc (a_1 : List (List Int)))), (1, (Enc.enc (b_2 : List (List Int)))), (4, (.bool false)), (5, (.int .i64 i_6))] s → w_eqIntSS_l1 F a_1 b_2 k i_6 = some r → Run D σ (R24 r) (.run A24_1 [.lp A24_1, .bk 0, .sq A24_6]) s := by
  intro k
  induction k with
  | zero => intro i_6 s _ h; exact nomatch (h : (none : Option _) = some r)
  | succ k ih =>
    intro i_6 s hs h
    rw [w_eqIntSS_l1] at h
    obtain ⟨h0, h1, h4, h5⟩ := hs
    refine .seq ?_
    refine .seq ?_
    refine run_reg ?_
    refine e_end ?_
    refine g_v1 (t := 5) (u := (.int .i64 i_6)) (.int .i64 i_6) h5 rfl rfl ?_
    refine g_v1 (t := 0) (u := (Enc.enc (a_1 : List (List Int)))) (Enc.enc (a_1 : List (List Int))) h0 rfl rfl ?_
    refine g_v (.int .i64 (a_1.length : Int)) (ev_len (xs := a_1) rfl) ?_
    refine g_v2 (t1 := 11) (t2 := 13) (u1 := (.int .i64 i_6)) (u2 := (.int .i64 (a_1.length : Int))) (.bool (decide (i_6 < (a_1.length : Int)))) rfl rfl rfl rfl ?_
    refine g_end ?_
    refine e_end ?_
    refine renew [(0, (Enc.enc (a_1 : List (List Int)))), (1, (Enc.enc (b_2 : List (List Int)))), (4, (.bool false)), (5, (.int .i64 i_6)), (14, (.bool (decide (i_6 < (a_1.length : Int)))))] ⟨h0, h1, h4, h5, rfl⟩ ?_
    rintro s ⟨h0, h1, h4, h5, h14⟩
    refine .nsq ?_
    refine run_cond (t := decide (i_6 < (a_1.length : Int))) h14 h (fun h => ?_) (fun h => ?_)
    · refine .skip ?_
      refine .nsq ?_
      refine .seq ?_
      refine .block ?_
      refine .seq ?_
      refine run_reg ?_
      refine e_end ?_
      refine g_v1 (t := 0) (u := (Enc.enc (a_1 : List (List Int)))) (Enc.enc (a_1 : List (List Int))) h0 rfl rfl ?_
      refine g_v1 (t := 5) (u := (.int .i64 i_6)) (.int .i64 i_6) h5 rfl rfl ?_
      obtain ⟨e_10, E_e_10, h⟩ := bind_some h
      refine g_v (.ref .sh 0 [] (Enc.enc (e_10 : List Int))) (ev_idx (t := .sh) (lo := 0) (xs := a_1) rfl rfl E_e_10 rfl rfl) ?_
      refine g_v1 (t := 19) (u := (.ref .sh 0 [] (Enc.enc (e_10 : List Int)))) (Enc.enc (e_10 : List Int)) rfl rfl rfl ?_
      refine g_v1 (t := 1) (u := (Enc.enc (b_2 : List (List Int)))) (Enc.enc (b_2 : List (List Int))) h1 rfl rfl ?_
      refine g_v1 (t := 5) (u := (.int .i64 i_6)) (.int .i64 i_6) h5 rfl rfl ?_
      obtain ⟨e_11, E_e_11, h⟩ := bind_some h
      refine g_v (.ref .sh 0 [] (Enc.enc (e_11 : List Int))) (ev_idx (t := .sh) (lo := 0) (xs := b_2) rfl rfl E_e_11 rfl rfl) ?_
      refine g_v1 (t := 23) (u := (.ref .sh 0 [] (Enc.enc (e_11 : List Int)))) (Enc.enc (e_11 : List Int)) rfl rfl rfl ?_
      obtain ⟨r_12, E_r_12, h⟩ := bind_some h
      refine g_call (m := 0) (al := false) (r := (Enc.enc (r_12 : Bool))) [Enc.enc (e_10 : (List Int)), Enc.enc (e_11 : (List Int))] (ta_cons (v := (Enc.enc (e_10 : List Int))) rfl rfl (Enc.erase_enc (e_10 : (List Int))) (ta_cons (v := (Enc.enc (e_11 : List Int))) rfl rfl (Enc.erase_enc (e_11 : (List Int))) ta_nil)) (H.c17 _ _ _ E_r_12) H.g17 rfl rfl rfl rfl ?_
      refine g_v1 (t := 25) (u := (.bool r_12)) (.bool (!r_12)) rfl rfl rfl ?_
      refine g_end ?_
      refine e_end ?_
      refine renew [(0, (Enc.enc (a_1 : List (List Int)))), (1, (Enc.enc (b_2 : List (List Int)))), (4, (.bool false)), (5, (.int .i64 i_6)), (26, (.bool (!r_12)))] ⟨h0, h1, h4, h5, rfl⟩ ?_
      rintro s ⟨h0, h1, h4, h5, h26⟩
      refine .nsq ?_
      refine run_cond (t := (!r_12)) h26 h (fun h => ?_) (fun h => ?_)
      · refine .seq ?_
        refine run_reg ?_
        refine e_end ?_
        refine g_v0 (.bool false) rfl rfl ?_
        refine g_end ?_
        refine e_end ?_
        refine renew [(0, (Enc.enc (a_1 : List (List Int)))), (1, (Enc.enc (b_2 : List (List Int)))), (4, (.bool false)), (5, (.int .i64 i_6))] ⟨h0, h1, rfl, h5⟩ ?_
        rintro s ⟨h0, h1, h4, h5⟩
        refine .nsq ?_
        refine .ret ?_
        have hr := Option.some.inj h
        subst hr
        exact rrA (res_tmp h4) rfl
      · refine .skip ?_
        refine .nbk ?_
        refine .nsq ?_
        refine run_reg ?_
        refine e_end ?_
        refine g_v1 (t := 5) (u := (.int .i64 i_6)) (.int .i64 i_6) h5 rfl rfl ?_
        refine g_v1 (t := 15) (u := (.int .i64 i_6)) (.int .i64 (w64 (i_6 + 1))) rfl rfl rfl ?_
        refine g_v1 (t := 16) (u := (.int .i64 (w64 (i_6 + 1)))) (.int .i64 (w64 (i_6 + 1))) rfl rfl rfl ?_
        refine g_end ?_
        refine e_end ?_
        refine renew [(0, (Enc.enc (a_1 : List (List Int)))), (1, (Enc.enc (b_2 : List (List Int)))), (4, (.bool false)), (5, (.int .i64 (w64 (i_6 + 1))))] ⟨h0, h1, h4, rfl⟩ ?_
        rintro s ⟨h0, h1, h4, h5⟩
        refine .nlp ?_
        exact ih (w64 (i_6 + 1)) _ ⟨h0, h1, h4, h5⟩ h
    · refine .exit ?_
      refine .esq ?_
      refine .elp ?_
      refine .ebk ?_
      refine .nsq ?_
      refine .seq ?_
      refine run_reg ?_
      refine e_end ?_
      refine g_v0 (.bool true) rfl rfl ?_
      refine g_end ?_
      refine e_end ?_
      refine renew [(4, (.bool true))] rfl ?_
      rintro s h4
      refine .nsq ?_
      refine .ret ?_
      have hr := Option.some.inj h
      subst hr
      exact rrA (res_tmp h4) rfl
def w_eqIntSS (F : Nat) (a_1 : (List (List Int))) (b_2 : (List (List Int))) : Option Bool :=
  bif ((a_1.length : Int) != (b_2.length : Int)) then
    some false
  else
    w_eqIntSS_l1 F a_1 b_2 F 0
theorem t24 (H : H24 D σ F) (a_1 : (List (List Int))) (b_2 : (List (List Int))) (s : Nat → V) (hs : Facts [(0, (Enc.enc (a_1 : List (List Int)))), (1, (Enc.enc (b_2 : List (List Int))))] s) (h : w_eqIntSS F a_1 b_2 = some r) : Run D σ (R24 r) (.run A24 []) s := by
  unfold w_eqIntSS at h
  obtain ⟨h0, h1⟩ := hs
  refine .seq ?_
  refine run_reg ?_
  refine e_end ?_
  refine g_v0 (.bool false) rfl rfl ?_
  refine g_end ?_
  refine e_end ?_
  refine renew [(0, (Enc.enc (a_1 : List (List Int)))), (1, (Enc.enc (b_2 : List (List Int)))), (4, (.bool false))] ⟨h0, h1, rfl⟩ ?_
  rintro s ⟨h0, h1, h4⟩
  refine .nsq ?_
  refine .seq ?_
  refine .seq ?_
  refine run_reg ?_
  refine e_end ?_
  refine g_v1 (t := 0) (u := (Enc.enc (a_1 : List (List Int)))) (Enc.enc (a_1 : List (List Int))) h0 rfl rfl ?_
  refine g_v (.int .i64 (a_1.length : Int)) (ev_len (xs := a_1) rfl) ?_
  refine g_v1 (t := 1) (u := (Enc.enc (b_2 : List (List Int)))) (Enc.enc (b_2 : List (List Int))) h1 rfl rfl ?_
  refine g_v (.int .i64 (b_2.length : Int)) (ev_len (xs := b_2) rfl) ?_
  refine g_v2 (t1 := 7) (t2 := 9) (u1 := (.int .i64 (a_1.length : Int))) (u2 := (.int .i64 (b_2.length : Int))) (.bool ((a_1.length : Int) != (b_2.length : Int))) rfl rfl rfl rfl ?_
  refine g_end ?_
  refine e_end ?_
  refine renew [(0, (Enc.enc (a_1 : List (List Int)))), (1, (Enc.enc (b_2 : List (List Int)))), (4, (.bool false)), (10, (.bool ((a_1.length : Int) != (b_2.length : Int))))] ⟨h0, h1, h4, rfl⟩ ?_
  rintro s ⟨h0, h1, h4, h10⟩
  refine .nsq ?_
  refine run_cond (t := ((a_1.length : Int) != (b_2.length : Int))) h10 h (fun h => ?_) (fun h => ?_)
  · refine .seq ?_
    refine run_reg ?_
    refine e_end ?_
    refine g_v0 (.bool false) rfl rfl ?_
    refine g_end ?_
    refine e_end ?_
    refine renew [(0, (Enc.enc (a_1 : List (List Int)))), (1, (Enc.enc (b_2 : List (List Int)))), (4, (.bool false))] ⟨h0, h1, rfl⟩ ?_
    rintro s ⟨h0, h1, h4⟩
    refine .nsq ?_
    refine .ret ?_
    have hr := Option.some.inj h
    subst hr
    exact rrA (res_tmp h4) rfl
  · refine .skip ?_
    refine .nsq ?_
    refine .seq ?_
    refine .seq ?_
    refine run_reg ?_
    refine e_end ?_
    refine g_v0 (.int .i64 0) rfl rfl ?_
    refine g_end ?_
    refine e_end ?_
    refine renew [(0, (Enc.enc (a_1 : List (List Int)))), (1, (Enc.enc (b_2 : List (List Int)))), (4, (.bool false)), (5, (.int .i64 0))] ⟨h0, h1, h4, rfl⟩ ?_
    rintro s ⟨h0, h1, h4, h5⟩
    refine .nsq ?_
    refine .block ?_
    refine .loop ?_
    exact t_f24_l1 H a_1 b_2 F 0 _ ⟨h0, h1, h4, h5⟩ h
end
def e24 (F : Nat) : Ent := ⟨24, da (fun (x : ((List (List Int)) × (List (List Int)) × Unit)) => w_eqIntSS F x.1 x.2.1) (fun (r : Bool) => (Enc.enc (r : Bool))), 0, false, selF []⟩
theorem p24 {F : Nat} {x0 : (List (List Int))} {x1 : (List (List Int))} {r : Bool} (h : w_eqIntSS F x0 x1 = some r) : (e24 F).den [Enc.enc x0, Enc.enc x1] = some (Enc.enc (r : Bool)) := da_put (f := fun (x : ((List (List Int)) × (List (List Int)) × Unit)) => w_eqIntSS F x.1 x.2.1) (t := fun (r : Bool) => (Enc.enc (r : Bool))) (x0, x1, ()) h
theorem o24 {D : Den} {σ : Sig} {F : Nat} (hF : Fits2 Try.prog D σ) (H : H24 D σ F) : (e24 F).Ok Try.prog := by
  refine ⟨fun args r h => ?_, ⟨Try.f24, Try.func24, rfl, rfl⟩⟩
  obtain ⟨⟨x0, x1, _⟩, y, rfl, hy, rfl⟩ := da_open h
  exact contract_run hF (by kernel_rfl) Try.func24 rfl c24 (show 2 ≤ Try.f24.ntmps by decide) (t24 H x0 x1 _ ⟨rfl, rfl⟩ hy)
/- loop.example/g01109/laws.FnExactIsPathDecomposition -/
def A5_1 : AC := (AC.cond (O.t 47) (AC.seq (AC.reg [] [(I.mk (some 4) none false (X.v (A.mov (O.k (V.bool false)))))] []) AC.ret) AC.skip)
def A5_3 : AC := (AC.cond (O.t 52) (AC.seq (AC.reg [] [(I.mk (some 4) none false (X.v (A.mov (O.k (V.bool false)))))] []) AC.ret) AC.skip)
def A5_5 : AC := (AC.cond (O.t 57) (AC.seq (AC.reg [] [(I.mk (some 4) none false (X.v (A.mov (O.k (V.bool false)))))] []) AC.ret) AC.skip)
def A5_6 : AC := (AC.seq (AC.reg [] [(I.mk (some 4) none false (X.v (A.mov (O.k (V.bool true)))))] []) AC.ret)
def A5_4 : AC := (AC.seq (AC.seq (AC.reg [] [(I.mk (some 53) none false (X.v (A.mov (O.t 9)))), (I.mk (some 54) none false (X.v (A.mov (O.t 1)))), (I.mk (some 55) none false (X.call (O.k (V.fn 22 [] [])) [(O.t 54)])), (I.mk (some 56) none false (X.call (O.k (V.fn 24 [] [])) [(O.t 53), (O.t 55)])), (I.mk (some 57) none false (X.v (A.un UnOp.not (O.t 56))))] []) A5_5) A5_6)
def A5_2 : AC := (AC.seq (AC.seq (AC.reg [] [(I.mk (some 48) none false (X.v (A.load (Sh.ag [Sh.s, Sh.p]) (O.t 8)))), (I.mk (some 49) none false (X.v (A.load (Sh.ag [Sh.s, Sh.p]) (O.t 2)))), (I.mk (some 50) none false (X.call (O.k (V.fn 13 [] [])) [(O.t 49)])), (I.mk (some 51) none false (X.call (O.k (V.fn 16 [] [])) [(O.t 48), (O.t 50)])), (I.mk (some 52) none false (X.v (A.un UnOp.not (O.t 51))))] []) A5_3) A5_4)
def A5_10 : AC := (AC.cond (O.t 16) (AC.seq (AC.reg [] [(I.mk (some 4) none false (X.v (A.mov (O.k (V.bool true)))))] []) AC.ret) AC.skip)
def A5_13 : AC := (AC.cond (O.t 21) (AC.seq (AC.reg [] [(I.mk (some 4) none false (X.v (A.mov (O.k (V.bool true)))))] []) AC.ret) AC.skip)
def A5_18 : AC := (AC.seq (AC.seq (AC.reg [] [(I.mk (some 40) none false (X.v (A.mov (O.t 10)))), (I.mk (some 41) none false (X.v (A.mov (O.t 6)))), (I.mk (some 42) none false (X.v (A.beq true (O.t 40) (O.t 41)))), (I.mk (some 43) none false (X.v (A.mov (O.t 42)))), (I.mk (some 44) (some (43, false)) false (X.v (A.mov (O.t 11)))), (I.mk (some 45) (some (43, false)) false (X.v (A.mov (O.t 7)))), (I.mk (some 46) (some (43, false)) false (X.v (A.beq true (O.t 44) (O.t 45)))), (I.mk (some 47) none false (X.v (A.pick (O.t 43) (O.k (V.bool true)) (O.t 46))))] []) A5_1) A5_2)
def A5_17 : AC := (AC.seq (AC.reg [] [(I.mk (some 35) none false (X.v (A.load (Sh.ag [Sh.s, Sh.p]) (O.t 8)))), (I.mk (some 36) none false (X.v (A.mov (O.t 9)))), (I.mk (some 37) none false (X.call (O.k (V.fn 23 [] [])) [(O.t 35), (O.t 36)])), (I.mk (some 34) none false (X.v (A.mov (O.t 37)))), (I.mk (some 38) none false (X.v (A.extS (O.t 34) 0))), (I.mk (some 39) none false (X.v (A.extS (O.t 34) 1))), (I.mk (some 10) none false (X.v (A.mov (O.t 38)))), (I.mk (some 11) none false (X.v (A.mov (O.t 39))))] []) A5_18)
def A5_16 : AC := (AC.seq (AC.reg [] [(I.mk (some 32) none false (X.v (A.mov (O.t 1)))), (I.mk (some 33) none false (X.call (O.k (V.fn 22 [] [])) [(O.t 32)])), (I.mk (some 9) none false (X.v (A.mov (O.t 33))))] []) A5_17)
def A5_15 : AC := (AC.seq (AC.reg [.clr [8]] [(I.mk (some 30) none false (X.v (A.load (Sh.ag [Sh.s, Sh.p]) (O.t 2)))), (I.mk (some 31) none false (X.call (O.k (V.fn 13 [] [])) [(O.t 30)])), (I.mk (some 8) none false (X.alloc (V.agg [(V.int IntKind.i64 (Int.ofNat 0)), (V.sl Tok.nl (Sh.ag [Sh.s, Sh.s]) 0 [])]))), (I.mk none none false (X.store (Sh.ag [Sh.s, Sh.p]) (O.t 8) (O.t 31)))] []) A5_16)
def A5_14 : AC := (AC.seq (AC.reg [] [(I.mk (some 23) none false (X.v (A.load (Sh.ag [Sh.s, Sh.p]) (O.t 2)))), (I.mk (some 24) none false (X.call (O.k (V.fn 13 [] [])) [(O.t 23)])), (I.mk (some 25) none false (X.v (A.mov (O.t 1)))), (I.mk (some 26) none false (X.call (O.k (V.fn 22 [] [])) [(O.t 25)])), (I.mk (some 27) none false (X.call (O.k (V.fn 21 [] [])) [(O.t 24), (O.t 26)])), (I.mk (some 22) none false (X.v (A.mov (O.t 27)))), (I.mk (some 28) none false (X.v (A.extS (O.t 22) 0))), (I.mk (some 29) none false (X.v (A.extS (O.t 22) 1))), (I.mk (some 6) none false (X.v (A.mov (O.t 28)))), (I.mk (some 7) none false (X.v (A.mov (O.t 29))))] []) A5_15)
def A5_12 : AC := (AC.seq (AC.seq (AC.reg [] [(I.mk (some 20) none false (X.v (A.mov (O.t 5)))), (I.mk (some 21) none false (X.v (A.bin BinOp.lss (O.t 20) (O.k (V.int IntKind.i64 (Int.ofNat 0))))))] []) A5_13) A5_14)
def A5_11 : AC := (AC.seq (AC.reg [] [(I.mk (some 17) none false (X.v (A.mov (O.t 1)))), (I.mk (some 18) none false (X.v (A.mov (O.t 5)))), (I.mk (some 19) none false (X.call (O.k (V.fn 20 [] [])) [(O.t 17), (O.t 18)])), (I.mk (some 5) none false (X.v (A.mov (O.t 19))))] []) A5_12)
def A5_9 : AC := (AC.seq (AC.seq (AC.reg [] [(I.mk (some 15) none false (X.v (A.mov (O.t 5)))), (I.mk (some 16) none false (X.v (A.bin BinOp.lss (O.t 15) (O.k (V.int IntKind.i64 (Int.ofNat 0))))))] []) A5_10) A5_11)
def A5_8 : AC := (AC.seq (AC.reg [] [(I.mk (some 12) none false (X.v (A.load (Sh.ag [Sh.s, Sh.p]) (O.t 2)))), (I.mk (some 13) none false (X.v (A.mov (O.t 5)))), (I.mk (some 14) none false (X.call (O.k (V.fn 11 [] [])) [(O.t 12), (O.t 13)])), (I.mk (some 5) none false (X.v (A.mov (O.t 14))))] []) A5_9)
def A5_7 : AC := (AC.seq (AC.reg [] [(I.mk (some 5) none false (X.v (A.mov (O.k (V.int IntKind.i64 (Int.ofNat 1048576))))))] []) A5_8)
def A5 : AC := (AC.seq (AC.reg [.clr [2]] [(I.mk (some 2) none false (X.box (O.t 0))), (I.mk (some 4) none false (X.v (A.mov (O.k (V.bool false)))))] []) A5_7)
def an5 : List An := [{ id := 0, pre := [.clr [2]], ep := [], lin := [], sp := [] }, { id := 9, pre := [.clr [8]], ep := [], lin := [], sp := [] }]
theorem c5 : cC Try.prog Try.f5.ntmps an5 (Try.f5.body.getD .skip) = some A5 := by kernel_rfl
structure H5 (D : Den) (σ : Sig) (F : Nat) : Prop where
  c11 : ∀ (x0 : (Int × (List (Int × Int)))) (x1 : Int) r, w_szGraph F x0 x1 = some r → D 11 [Enc.enc x0, Enc.enc x1] = some (Enc.enc (r : Int))
  g11 : σ 11 = some (0, false)
  c20 : ∀ (x0 : (List (List Int))) (x1 : Int) r, w_szIntSS F x0 x1 = some r → D 20 [Enc.enc x0, Enc.enc x1] = some (Enc.enc (r : Int))
  g20 : σ 20 = some (0, false)
  c13 : ∀ (x0 : (Int × (List (Int × Int)))) r, w_toGraph F x0 = some r → D 13 [Enc.enc x0] = some (Enc.enc (r : (Int × (List (Int × Int)))))
  g13 : σ 13 = some (0, true)
  c22 : ∀ (x0 : (List (List Int))) r, w_toIntSS F x0 = some r → D 22 [Enc.enc x0] = some (Enc.enc (r : (List (List Int))))
  g22 : σ 22 = some (0, true)
  c21 : ∀ (x0 : (Int × (List (Int × Int)))) (x1 : (List (List Int))) r, s_IsPathDecomposition F x0 x1 = some r → D 21 [Enc.enc x0, Enc.enc x1] = some (.tup [Enc.enc (r.1 : Bool), Enc.enc (r.2 : Bool)])
  g21 : σ 21 = some (0, false)
  c23 : ∀ (x0 : (Int × (List (Int × Int)))) (x1 : (List (List Int))) r, i_IsPathDecomposition F x0 x1 = some r → D 23 [Enc.enc x0, Enc.enc x1] = some (.tup [Enc.enc (r.1 : Bool), Enc.enc (r.2 : Bool)])
  g23 : σ 23 = some (0, false)
  c16 : ∀ (x0 : (Int × (List (Int × Int)))) (x1 : (Int × (List (Int × Int)))) r, w_eqGraph F x0 x1 = some r → D 16 [Enc.enc x0, Enc.enc x1] = some (Enc.enc (r : Bool))
  g16 : σ 16 = some (0, false)
  c24 : ∀ (x0 : (List (List Int))) (x1 : (List (List Int))) r, w_eqIntSS F x0 x1 = some r → D 24 [Enc.enc x0, Enc.enc x1] = some (Enc.enc (r : Bool))
  g24 : σ 24 = some (0, false)
abbrev R5 (r : Bool) : (Nat → V) → Prop := RR Try.prog [.tmp 4] 0 false (Enc.enc (r : Bool))
section
variable {D : Den} {σ : Sig} {F : Nat} {r : Bool}
def w_FnExactIsPathDecomposition_j1 (F : Nat) (aBags_2 : (List (List Int))) (aG_1 : (Int × (List (Int × Int)))) (r_8 : (Int × (List (Int × Int)))) (r_9 : (List (List Int)))  (t47_11 : Bool) : Option Bool :=
  bif t47_11 then
    some false
  else
    (w_toGraph F aG_1).bind fun r_12 =>
    (w_eqGraph F r_8 r_12).bind fun r_13 =>
    bif (!r_13) then
      some false
    else
      (w_toIntSS F aBags_2).bind fun r_14 =>
      (w_eqIntSS F r_9 r_14).bind fun r_15 =>
      bif (!r_15) then
        some false
      else
        some true
theorem t_f5_j1 (H : H5 D σ F) (aBags_2 : (List (List Int))) (aG_1 : (Int × (List (Int × Int)))) (r_8 : (Int × (List (Int × Int)))) (r_9 : (List (List Int)))  (t47_11 : Bool) (s : Nat → V) (hs : Facts [(1, (Enc.enc (aBags_2 : List (List Int)))), (2, (.ref (.bx 2) 0 [] (.agg [(.int .i64 aG_1.1), (Enc.enc (aG_1.2 : List (Int × Int)))]))), (4, (.bool false)), (8, (.ref (.bx 8) 0 [] (.agg [(.int .i64 r_8.1), (Enc.enc (r_8.2 : List (Int × Int)))]))), (9, (Enc.enc (r_9 : List (List Int)))), (47, (.bool t47_11))] s) (h : w_FnExactIsPathDecomposition_j1 F aBags_2 aG_1 r_8 r_9  t47_11 = some r) : Run D σ (R5 r) (.nrm [.sq A5_1, .sq A5_2]) s := by
  unfold w_FnExactIsPathDecomposition_j1 at h
  obtain ⟨h1, h2, h4, h8, h9, h47⟩ := hs
  refine .nsq ?_
  refine run_cond (t := t47_11) h47 h (fun h => ?_) (fun h => ?_)
  · refine .seq ?_
    refine run_reg ?_
    refine e_end ?_
    refine g_v0 (.bool false) rfl rfl ?_
    refine g_end ?_
    refine e_end ?_
    refine renew [(1, (Enc.enc (aBags_2 : List (List Int)))), (2, (.ref (.bx 2) 0 [] (.agg [(.int .i64 aG_1.1), (Enc.enc (aG_1.2 : List (Int × Int)))]))), (4, (.bool false)), (8, (.ref (.bx 8) 0 [] (.agg [(.int .i64 r_8.1), (Enc.enc (r_8.2 : List (Int × Int)))]))), (9, (Enc.enc (r_9 : List (List Int))))] ⟨h1, h2, rfl, h8, h9⟩ ?_
    rintro s ⟨h1, h2, h4, h8, h9⟩
    refine .nsq ?_
    refine .ret ?_
    have hr := Option.some.inj h
    subst hr
    exact rrA (res_tmp h4) rfl
  · refine .skip ?_
    refine .nsq ?_
    refine .seq ?_
    refine .seq ?_
    refine run_reg ?_
    refine e_end ?_
    refine g_v1 (t := 8) (u := (.ref (.bx 8) 0 [] (.agg [(.int .i64 r_8.1), (Enc.enc (r_8.2 : List (Int × Int)))]))) (.agg [(.int .i64 r_8.1), (Enc.enc (r_8.2 : List (Int × Int)))]) h8 rfl rfl ?_
    refine g_v1 (t := 2) (u := (.ref (.bx 2) 0 [] (.agg [(.int .i64 aG_1.1), (Enc.enc (aG_1.2 : List (Int × Int)))]))) (.agg [(.int .i64 aG_1.1), (Enc.enc (aG_1.2 : List (Int × Int)))]) h2 rfl rfl ?_
    obtain ⟨r_12, E_r_12, h⟩ := bind_some h
    refine g_call (m := 0) (al := true) (r := (Enc.enc (r_12 : (Int × (List (Int × Int)))))) [Enc.enc (aG_1 : (Int × (List (Int × Int))))] (ta_cons (v := (.agg [(.int .i64 aG_1.1), (Enc.enc (aG_1.2 : List (Int × Int)))])) rfl rfl (Enc.erase_enc (aG_1 : (Int × (List (Int × Int))))) ta_nil) (H.c13 _ _ E_r_12) H.g13 (hal_of (ht_cons (v := (.agg [(.int .i64 aG_1.1), (Enc.enc (aG_1.2 : List (Int × Int)))])) rfl rfl rfl ht_nil)) rfl rfl rfl ?_
    obtain ⟨r_13, E_r_13, h⟩ := bind_some h
    refine g_call (m := 0) (al := false) (r := (Enc.enc (r_13 : Bool))) [Enc.enc (r_8 : (Int × (List (Int × Int)))), Enc.enc (r_12 : (Int × (List (Int × Int))))] (ta_cons (v := (.agg [(.int .i64 r_8.1), (Enc.enc (r_8.2 : List (Int × Int)))])) rfl rfl (Enc.erase_enc (r_8 : (Int × (List (Int × Int))))) (ta_cons (v := (.agg [(.int .i64 r_12.1), (Enc.enc (r_12.2 : List (Int × Int)))])) rfl rfl (Enc.erase_enc (r_12 : (Int × (List (Int × Int))))) ta_nil)) (H.c16 _ _ _ E_r_13) H.g16 rfl rfl rfl rfl ?_
    refine g_v1 (t := 51) (u := (.bool r_13)) (.bool (!r_13)) rfl rfl rfl ?_
    refine g_end ?_
    refine e_end ?_
    refine renew [(1, (Enc.enc (aBags_2 : List (List Int)))), (4, (.bool false)), (9, (Enc.enc (r_9 : List (List Int)))), (52, (.bool (!r_13)))] ⟨h1, h4, h9, rfl⟩ ?_
    rintro s ⟨h1, h4, h9, h52⟩
    refine .nsq ?_
    refine run_cond (t := (!r_13)) h52 h (fun h => ?_) (fun h => ?_)
    · refine .seq ?_
      refine run_reg ?_
      refine e_end ?_
      refine g_v0 (.bool false) rfl rfl ?_
      refine g_end ?_
      refine e_end ?_
      refine renew [(1, (Enc.enc (aBags_2 : List (List Int)))), (4, (.bool false)), (9, (Enc.enc (r_9 : List (List Int))))] ⟨h1, rfl, h9⟩ ?_
      rintro s ⟨h1, h4, h9⟩
      refine .nsq ?_
      refine .ret ?_
      have hr := Option.some.inj h
      subst hr
      exact rrA (res_tmp h4) rfl
    · refine .skip ?_
      refine .nsq ?_
      refine .seq ?_
      refine .seq ?_
      refine run_reg ?_
      refine e_end ?_
      refine g_v1 (t := 9) (u := (Enc.enc (r_9 : List (List Int)))) (Enc.enc (r_9 : List (List Int))) h9 rfl rfl ?_
      refine g_v1 (t := 1) (u := (Enc.enc (aBags_2 : List (List Int)))) (Enc.enc (aBags_2 : List (List Int))) h1 rfl rfl ?_
      obtain ⟨r_14, E_r_14, h⟩ := bind_some h
      refine g_call (m := 0) (al := true) (r := (Enc.enc (r_14 : (List (List Int))))) [Enc.enc (aBags_2 : (List (List Int)))] (ta_cons (v := (Enc.enc (aBags_2 : List (List Int)))) rfl rfl (Enc.erase_enc (aBags_2 : (List (List Int)))) ta_nil) (H.c22 _ _ E_r_14) H.g22 (hal_of (ht_cons (v := (Enc.enc (aBags_2 : List (List Int)))) rfl rfl rfl ht_nil)) rfl rfl rfl ?_
      obtain ⟨r_15, E_r_15, h⟩ := bind_some h
      refine g_call (m := 0) (al := false) (r := (Enc.enc (r_15 : Bool))) [Enc.enc (r_9 : (List (List Int))), Enc.enc (r_14 : (List (List Int)))] (ta_cons (v := (Enc.enc (r_9 : List (List Int)))) rfl rfl (Enc.erase_enc (r_9 : (List (List Int)))) (ta_cons (v := (Enc.enc (r_14 : List (List Int)))) rfl rfl (Enc.erase_enc (r_14 : (List (List Int)))) ta_nil)) (H.c24 _ _ _ E_r_15) H.g24 rfl rfl rfl rfl ?_
      refine g_v1 (t := 56) (u := (.bool r_15)) (.bool (!r_15)) rfl rfl rfl ?_
      refine g_end ?_
      refine e_end ?_
      refine renew [(4, (.bool false)), (57, (.bool (!r_15)))] ⟨h4, rfl⟩ ?_
      rintro s ⟨h4, h57⟩
      refine .nsq ?_
      refine run_cond (t := (!r_15)) h57 h (fun h => ?_) (fun h => ?_)
      · refine .seq ?_
        refine run_reg ?_
        refine e_end ?_
        refine g_v0 (.bool false) rfl rfl ?_
        refine g_end ?_
        refine e_end ?_
        refine renew [(4, (.bool false))] rfl ?_
        rintro s h4
        refine .nsq ?_
        refine .ret ?_
        have hr := Option.some.inj h
        subst hr
        exact rrA (res_tmp h4) rfl
      · refine .skip ?_
        refine .nsq ?_
        refine .seq ?_
        refine run_reg ?_
        refine e_end ?_
        refine g_v0 (.bool true) rfl rfl ?_
        refine g_end ?_
        refine e_end ?_
        refine renew [(4, (.bool true))] rfl ?_
        rintro s h4
        refine .nsq ?_
        refine .ret ?_
        have hr := Option.some.inj h
        subst hr
        exact rrA (res_tmp h4) rfl
def w_FnExactIsPathDecomposition (F : Nat) (aG_1 : (Int × (List (Int × Int)))) (aBags_2 : (List (List Int))) : Option Bool :=
  (w_szGraph F aG_1 1048576).bind fun r_3 =>
  bif decide (r_3 < 0) then
    some true
  else
    (w_szIntSS F aBags_2 r_3).bind fun r_4 =>
    bif decide (r_4 < 0) then
      some true
    else
      (w_toGraph F aG_1).bind fun r_5 =>
      (w_toIntSS F aBags_2).bind fun r_6 =>
      (s_IsPathDecomposition F r_5 r_6).bind fun r_7 =>
      (w_toGraph F aG_1).bind fun r_8 =>
      (w_toIntSS F aBags_2).bind fun r_9 =>
      (i_IsPathDecomposition F r_8 r_9).bind fun r_10 =>
      bif (r_10.1 != r_7.1) then
        w_FnExactIsPathDecomposition_j1 F aBags_2 aG_1 r_8 r_9 true
      else
        w_FnExactIsPathDecomposition_j1 F aBags_2 aG_1 r_8 r_9 (r_10.2 != r_7.2)
theorem t5 (H : H5 D σ F) (aG_1 : (Int × (List (Int × Int)))) (aBags_2 : (List (List Int))) (s : Nat → V) (hs : Facts [(0, (.agg [(.int .i64 aG_1.1), (Enc.enc (aG_1.2 : List (Int × Int)))])), (1, (Enc.enc (aBags_2 : List (List Int))))] s) (h : w_FnExactIsPathDecomposition F aG_1 aBags_2 = some r) : Run D σ (R5 r) (.run A5 []) s := by
  unfold w_FnExactIsPathDecomposition at h
  obtain ⟨h0, h1⟩ := hs
  refine .seq ?_
  refine run_reg ?_
  refine e_clr ?_
  refine e_end ?_
  refine g_box (.agg [(.int .i64 aG_1.1), (Enc.enc (aG_1.2 : List (Int × Int)))]) (rd_of (keep_clear (s := s) (pk := [2]) h0 rfl (map_agg (maps_cons rfl (maps_cons (Enc.map_enc _ (aG_1.2 : List (Int × Int))) maps_nil)))) rfl) (gone_clear (s := s) (pk := [2]) (t := 2) rfl) rfl ?_
  refine g_v0 (.bool false) rfl rfl ?_
  refine g_end ?_
  refine e_end ?_
  refine renew [(1, (Enc.enc (aBags_2 : List (List Int)))), (2, (.ref (.bx 2) 0 [] (.agg [(.int .i64 aG_1.1), (Enc.enc (aG_1.2 : List (Int × Int)))]))), (4, (.bool false))] ⟨(keep_clear (s := s) (pk := [2]) h1 rfl (Enc.map_enc _ (aBags_2 : List (List Int)))), rfl, rfl⟩ ?_
  rintro s ⟨h1, h2, h4⟩
  refine .nsq ?_
  refine .seq ?_
  refine run_reg ?_
  refine e_end ?_
  refine g_v0 (.int .i64 1048576) rfl rfl ?_
  refine g_end ?_
  refine e_end ?_
  refine renew [(1, (Enc.enc (aBags_2 : List (List Int)))), (2, (.ref (.bx 2) 0 [] (.agg [(.int .i64 aG_1.1), (Enc.enc (aG_1.2 : List (Int × Int)))]))), (4, (.bool false)), (5, (.int .i64 1048576))] ⟨h1, h2, h4, rfl⟩ ?_
  rintro s ⟨h1, h2, h4, h5⟩
  refine .nsq ?_
  refine .seq ?_
  refine run_reg ?_
  refine e_end ?_
  refine g_v1 (t := 2) (u := (.ref (.bx 2) 0 [] (.agg [(.int .i64 aG_1.1), (Enc.enc (aG_1.2 : List (Int × Int)))]))) (.agg [(.int .i64 aG_1.1), (Enc.enc (aG_1.2 : List (Int × Int)))]) h2 rfl rfl ?_
  refine g_v1 (t := 5) (u := (.int .i64 1048576)) (.int .i64 1048576) h5 rfl rfl ?_
  obtain ⟨r_3, E_r_3, h⟩ := bind_some h
  refine g_call (m := 0) (al := false) (r := (Enc.enc (r_3 : Int))) [Enc.enc (aG_1 : (Int × (List (Int × Int)))), Enc.enc (1048576 : Int)] (ta_cons (v := (.agg [(.int .i64 aG_1.1), (Enc.enc (aG_1.2 : List (Int × Int)))])) rfl rfl (Enc.erase_enc (aG_1 : (Int × (List (Int × Int))))) (ta_cons (v := (.int .i64 1048576)) rfl rfl rfl ta_nil)) (H.c11 _ _ _ E_r_3) H.g11 rfl rfl rfl rfl ?_
  refine g_v1 (t := 14) (u := (.int .i64 r_3)) (.int .i64 r_3) rfl rfl rfl ?_
  refine g_end ?_
  refine e_end ?_
  refine renew [(1, (Enc.enc (aBags_2 : List (List Int)))), (2, (.ref (.bx 2) 0 [] (.agg [(.int .i64 aG_1.1), (Enc.enc (aG_1.2 : List (Int × Int)))]))), (4, (.bool false)), (5, (.int .i64 r_3))] ⟨h1, h2, h4, rfl⟩ ?_
  rintro s ⟨h1, h2, h4, h5⟩
  refine .nsq ?_
  refine .seq ?_
  refine .seq ?_
  refine run_reg ?_
  refine e_end ?_
  refine g_v1 (t := 5) (u := (.int .i64 r_3)) (.int .i64 r_3) h5 rfl rfl ?_
  refine g_v1 (t := 15) (u := (.int .i64 r_3)) (.bool (decide (r_3 < 0))) rfl rfl rfl ?_
  refine g_end ?_
  refine e_end ?_
  refine renew [(1, (Enc.enc (aBags_2 : List (List Int)))), (2, (.ref (.bx 2) 0 [] (.agg [(.int .i64 aG_1.1), (Enc.enc (aG_1.2 : List (Int × Int)))]))), (4, (.bool false)), (5, (.int .i64 r_3)), (16, (.bool (decide (r_3 < 0))))] ⟨h1, h2, h4, h5, rfl⟩ ?_
  rintro s ⟨h1, h2, h4, h5, h16⟩
  refine .nsq ?_
  refine run_cond (t := decide (r_3 < 0)) h16 h (fun h => ?_) (fun h => ?_)
  · refine .seq ?_
    refine run_reg ?_
    refine e_end ?_
    refine g_v0 (.bool true) rfl rfl ?_
    refine g_end ?_
    refine e_end ?_
    refine renew [(1, (Enc.enc (aBags_2 : List (List Int)))), (2, (.ref (.bx 2) 0 [] (.agg [(.int .i64 aG_1.1), (Enc.enc (aG_1.2 : List (Int × Int)))]))), (4, (.bool true)), (5, (.int .i64 r_3))] ⟨h1, h2, rfl, h5⟩ ?_
    rintro s ⟨h1, h2, h4, h5⟩
    refine .nsq ?_
    refine .ret ?_
    have hr := Option.some.inj h
    subst hr
    exact rrA (res_tmp h4) rfl
  · refine .skip ?_
    refine .nsq ?_
    refine .seq ?_
    refine run_reg ?_
    refine e_end ?_
    refine g_v1 (t := 1) (u := (Enc.enc (aBags_2 : List (List Int)))) (Enc.enc (aBags_2 : List (List Int))) h1 rfl rfl ?_
    refine g_v1 (t := 5) (u := (.int .i64 r_3)) (.int .i64 r_3) h5 rfl rfl ?_
    obtain ⟨r_4, E_r_4, h⟩ := bind_some h
    refine g_call (m := 0) (al := false) (r := (Enc.enc (r_4 : Int))) [Enc.enc (aBags_2 : (List (List Int))), Enc.enc (r_3 : Int)] (ta_cons (v := (Enc.enc (aBags_2 : List (List Int)))) rfl rfl (Enc.erase_enc (aBags_2 : (List (List Int)))) (ta_cons (v := (.int .i64 r_3)) rfl rfl rfl ta_nil)) (H.c20 _ _ _ E_r_4) H.g20 rfl rfl rfl rfl ?_
    refine g_v1 (t := 19) (u := (.int .i64 r_4)) (.int .i64 r_4) rfl rfl rfl ?_
    refine g_end ?_
    refine e_end ?_
    refine renew [(1, (Enc.enc (aBags_2 : List (List Int)))), (2, (.ref (.bx 2) 0 [] (.agg [(.int .i64 aG_1.1), (Enc.enc (aG_1.2 : List (Int × Int)))]))), (4, (.bool false)), (5, (.int .i64 r_4))] ⟨h1, h2, h4, rfl⟩ ?_
    rintro s ⟨h1, h2, h4, h5⟩
    refine .nsq ?_
    refine .seq ?_
    refine .seq ?_
    refine run_reg ?_
    refine e_end ?_
    refine g_v1 (t := 5) (u := (.int .i64 r_4)) (.int .i64 r_4) h5 rfl rfl ?_
    refine g_v1 (t := 20) (u := (.int .i64 r_4)) (.bool (decide (r_4 < 0))) rfl rfl rfl ?_
    refine g_end ?_
    refine e_end ?_
    refine renew [(1, (Enc.enc (aBags_2 : List (List Int)))), (2, (.ref (.bx 2) 0 [] (.agg [(.int .i64 aG_1.1), (Enc.enc (aG_1.2 : List (Int × Int)))]))), (4, (.bool false)), (21, (.bool (decide (r_4 < 0))))] ⟨h1, h2, h4, rfl⟩ ?_
    rintro s ⟨h1, h2, h4, h21⟩
    refine .nsq ?_
    refine run_cond (t := decide (r_4 < 0)) h21 h (fun h => ?_) (fun h => ?_)
    · refine .seq ?_
      refine run_reg ?_
      refine e_end ?_
      refine g_v0 (.bool true) rfl rfl ?_
      refine g_end ?_
      refine e_end ?_
      refine renew [(1, (Enc.enc (aBags_2 : List (List Int)))), (2, (.ref (.bx 2) 0 [] (.agg [(.int .i64 aG_1.1), (Enc.enc (aG_1.2 : List (Int × Int)))]))), (4, (.bool true))] ⟨h1, h2, rfl⟩ ?_
      rintro s ⟨h1, h2, h4⟩
      refine .nsq ?_
      refine .ret ?_
      have hr := Option.some.inj h
      subst hr
      exact rrA (res_tmp h4) rfl
    · refine .skip ?_
      refine .nsq ?_
      refine .seq ?_
      refine run_reg ?_
      refine e_end ?_
      refine g_v1 (t := 2) (u := (.ref (.bx 2) 0 [] (.agg [(.int .i64 aG_1.1), (Enc.enc (aG_1.2 : List (Int × Int)))]))) (.agg [(.int .i64 aG_1.1), (Enc.enc (aG_1.2 : List (Int × Int)))]) h2 rfl rfl ?_
      obtain ⟨r_5, E_r_5, h⟩ := bind_some h
      refine g_call (m := 0) (al := true) (r := (Enc.enc (r_5 : (Int × (List (Int × Int)))))) [Enc.enc (aG_1 : (Int × (List (Int × Int))))] (ta_cons (v := (.agg [(.int .i64 aG_1.1), (Enc.enc (aG_1.2 : List (Int × Int)))])) rfl rfl (Enc.erase_enc (aG_1 : (Int × (List (Int × Int))))) ta_nil) (H.c13 _ _ E_r_5) H.g13 (hal_of (ht_cons (v := (.agg [(.int .i64 aG_1.1), (Enc.enc (aG_1.2 : List (Int × Int)))])) rfl rfl rfl ht_nil)) rfl rfl rfl ?_
      refine g_v1 (t := 1) (u := (Enc.enc (aBags_2 : List (List Int)))) (Enc.enc (aBags_2 : List (List Int))) h1 rfl rfl ?_
      obtain ⟨r_6, E_r_6, h⟩ := bind_some h
      refine g_call (m := 0) (al := true) (r := (Enc.enc (r_6 : (List (List Int))))) [Enc.enc (aBags_2 : (List (List Int)))] (ta_cons (v := (Enc.enc (aBags_2 : List (List Int)))) rfl rfl (Enc.erase_enc (aBags_2 : (List (List Int)))) ta_nil) (H.c22 _ _ E_r_6) H.g22 (hal_of (ht_cons (v := (Enc.enc (aBags_2 : List (List Int)))) rfl rfl rfl ht_nil)) rfl rfl rfl ?_
      obtain ⟨r_7, E_r_7, h⟩ := bind_some h
      refine g_call (m := 0) (al := false) (r := (.tup [Enc.enc (r_7.1 : Bool), Enc.enc (r_7.2 : Bool)])) [Enc.enc (r_5 : (Int × (List (Int × Int)))), Enc.enc (r_6 : (List (List Int)))] (ta_cons (v := (.agg [(.int .i64 r_5.1), (Enc.enc (r_5.2 : List (Int × Int)))])) rfl rfl (Enc.erase_enc (r_5 : (Int × (List (Int × Int))))) (ta_cons (v := (Enc.enc (r_6 : List (List Int)))) rfl rfl (Enc.erase_enc (r_6 : (List (List Int)))) ta_nil)) (H.c21 _ _ _ E_r_7) H.g21 rfl rfl rfl rfl ?_
      refine g_v1 (t := 27) (u := (.tup [(.bool r_7.1), (.bool r_7.2)])) (.tup [(.bool r_7.1), (.bool r_7.2)]) rfl rfl rfl ?_
      refine g_v1 (t := 22) (u := (.tup [(.bool r_7.1), (.bool r_7.2)])) (.bool r_7.1) rfl rfl rfl ?_
      refine g_v1 (t := 22) (u := (.tup [(.bool r_7.1), (.bool r_7.2)])) (.bool r_7.2) rfl rfl rfl ?_
      refine g_v1 (t := 28) (u := (.bool r_7.1)) (.bool r_7.1) rfl rfl rfl ?_
      refine g_v1 (t := 29) (u := (.bool r_7.2)) (.bool r_7.2) rfl rfl rfl ?_
      refine g_end ?_
      refine e_end ?_
      refine renew [(1, (Enc.enc (aBags_2 : List (List Int)))), (2, (.ref (.bx 2) 0 [] (.agg [(.int .i64 aG_1.1), (Enc.enc (aG_1.2 : List (Int × Int)))]))), (4, (.bool false)), (6, (.bool r_7.1)), (7, (.bool r_7.2))] ⟨h1, h2, h4, rfl, rfl⟩ ?_
      rintro s ⟨h1, h2, h4, h6, h7⟩
      refine .nsq ?_
      refine .seq ?_
      refine run_reg ?_
      refine e_clr ?_
      refine e_end ?_
      refine g_v1 (t := 2) (u := (.ref (.bx 2) 0 [] (.agg [(.int .i64 aG_1.1), (Enc.enc (aG_1.2 : List (Int × Int)))]))) (.agg [(.int .i64 aG_1.1), (Enc.enc (aG_1.2 : List (Int × Int)))]) (keep_clear (s := s) (pk := [8]) h2 rfl (map_bx rfl (map_agg (maps_cons rfl (maps_cons (Enc.map_enc _ (aG_1.2 : List (Int × Int))) maps_nil))))) rfl rfl ?_
      obtain ⟨r_8, E_r_8, h⟩ := bind_some h
      refine g_call (m := 0) (al := true) (r := (Enc.enc (r_8 : (Int × (List (Int × Int)))))) [Enc.enc (aG_1 : (Int × (List (Int × Int))))] (ta_cons (v := (.agg [(.int .i64 aG_1.1), (Enc.enc (aG_1.2 : List (Int × Int)))])) rfl rfl (Enc.erase_enc (aG_1 : (Int × (List (Int × Int))))) ta_nil) (H.c13 _ _ E_r_8) H.g13 (hal_of (ht_cons (v := (.agg [(.int .i64 aG_1.1), (Enc.enc (aG_1.2 : List (Int × Int)))])) rfl rfl rfl ht_nil)) rfl rfl rfl ?_
      refine g_alloc (gone_clear (s := s) (pk := [8]) (t := 8) rfl) ?_
      refine g_store (.agg [(.int .i64 r_8.1), (Enc.enc (r_8.2 : List (Int × Int)))]) (rd_of rfl rfl) (rd_of rfl rfl) (by refine ⟨by decide, by decide, rfl, rfl, rfl, ?_⟩; first | rfl | simp [V.toks, V.tokss, Enc.toks_enc]) ?_
      refine g_end ?_
      refine e_end ?_
      refine renew [(1, (Enc.enc (aBags_2 : List (List Int)))), (2, (.ref (.bx 2) 0 [] (.agg [(.int .i64 aG_1.1), (Enc.enc (aG_1.2 : List (Int × Int)))]))), (4, (.bool false)), (6, (.bool r_7.1)), (7, (.bool r_7.2)), (8, (.ref (.bx 8) 0 [] (.agg [(.int .i64 r_8.1), (Enc.enc (r_8.2 : List (Int × Int)))])))] ⟨(keep_mut (keep_clear (s := s) (pk := [8]) h1 rfl (Enc.map_enc _ (aBags_2 : List (List Int)))) (Enc.mut_enc _ _ _ _ (aBags_2 : List (List Int)))), (keep_mut (keep_clear (s := s) (pk := [8]) h2 rfl (map_bx rfl (map_agg (maps_cons rfl (maps_cons (Enc.map_enc _ (aG_1.2 : List (Int × Int))) maps_nil))))) (mut_ref_ne rfl rfl (mut_agg (muts_cons rfl (muts_cons (Enc.mut_enc _ _ _ _ (aG_1.2 : List (Int × Int))) rfl))))), (keep_mut (keep_clear (s := s) (pk := [8]) h4 rfl rfl) rfl), (keep_mut (keep_clear (s := s) (pk := [8]) h6 rfl rfl) rfl), (keep_mut (keep_clear (s := s) (pk := [8]) h7 rfl rfl) rfl), (keep_mut rfl rfl)⟩ ?_
      rintro s ⟨h1, h2, h4, h6, h7, h8⟩
      refine .nsq ?_
      refine .seq ?_
      refine run_reg ?_
      refine e_end ?_
      refine g_v1 (t := 1) (u := (Enc.enc (aBags_2 : List (List Int)))) (Enc.enc (aBags_2 : List (List Int))) h1 rfl rfl ?_
      obtain ⟨r_9, E_r_9, h⟩ := bind_some h
      refine g_call (m := 0) (al := true) (r := (Enc.enc (r_9 : (List (List Int))))) [Enc.enc (aBags_2 : (List (List Int)))] (ta_cons (v := (Enc.enc (aBags_2 : List (List Int)))) rfl rfl (Enc.erase_enc (aBags_2 : (List (List Int)))) ta_nil) (H.c22 _ _ E_r_9) H.g22 (hal_of (ht_cons (v := (Enc.enc (aBags_2 : List (List Int)))) rfl rfl rfl ht_nil)) rfl rfl rfl ?_
      refine g_v1 (t := 33) (u := (Enc.enc (r_9 : List (List Int)))) (Enc.enc (r_9 : List (List Int))) rfl rfl rfl ?_
      refine g_end ?_
      refine e_end ?_
      refine renew [(1, (Enc.enc (aBags_2 : List (List Int)))), (2, (.ref (.bx 2) 0 [] (.agg [(.int .i64 aG_1.1), (Enc.enc (aG_1.2 : List (Int × Int)))]))), (4, (.bool false)), (6, (.bool r_7.1)), (7, (.bool r_7.2)), (8, (.ref (.bx 8) 0 [] (.agg [(.int .i64 r_8.1), (Enc.enc (r_8.2 : List (Int × Int)))]))), (9, (Enc.enc (r_9 : List (List Int))))] ⟨h1, h2, h4, h6, h7, h8, rfl⟩ ?_
      rintro s ⟨h1, h2, h4, h6, h7, h8, h9⟩
      refine .nsq ?_
      refine .seq ?_
      refine run_reg ?_
      refine e_end ?_
      refine g_v1 (t := 8) (u := (.ref (.bx 8) 0 [] (.agg [(.int .i64 r_8.1), (Enc.enc (r_8.2 : List (Int × Int)))]))) (.agg [(.int .i64 r_8.1), (Enc.enc (r_8.2 : List (Int × Int)))]) h8 rfl rfl ?_
      refine g_v1 (t := 9) (u := (Enc.enc (r_9 : List (List Int)))) (Enc.enc (r_9 : List (List Int))) h9 rfl rfl ?_
      obtain ⟨r_10, E_r_10, h⟩ := bind_some h
      refine g_call (m := 0) (al := false) (r := (.tup [Enc.enc (r_10.1 : Bool), Enc.enc (r_10.2 : Bool)])) [Enc.enc (r_8 : (Int × (List (Int × Int)))), Enc.enc (r_9 : (List (List Int)))] (ta_cons (v := (.agg [(.int .i64 r_8.1), (Enc.enc (r_8.2 : List (Int × Int)))])) rfl rfl (Enc.erase_enc (r_8 : (Int × (List (Int × Int))))) (ta_cons (v := (Enc.enc (r_9 : List (List Int)))) rfl rfl (Enc.erase_enc (r_9 : (List (List Int)))) ta_nil)) (H.c23 _ _ _ E_r_10) H.g23 rfl rfl rfl rfl ?_
      refine g_v1 (t := 37) (u := (.tup [(.bool r_10.1), (.bool r_10.2)])) (.tup [(.bool r_10.1), (.bool r_10.2)]) rfl rfl rfl ?_
      refine g_v1 (t := 34) (u := (.tup [(.bool r_10.1), (.bool r_10.2)])) (.bool r_10.1) rfl rfl rfl ?_
      refine g_v1 (t := 34) (u := (.tup [(.bool r_10.1), (.bool r_10.2)])) (.bool r_10.2) rfl rfl rfl ?_
      refine g_v1 (t := 38) (u := (.bool r_10.1)) (.bool r_10.1) rfl rfl rfl ?_
      refine g_v1 (t := 39) (u := (.bool r_10.2)) (.bool r_10.2) rfl rfl rfl ?_
      refine g_end ?_
      refine e_end ?_
      refine renew [(1, (Enc.enc (aBags_2 : List (List Int)))), (2, (.ref (.bx 2) 0 [] (.agg [(.int .i64 aG_1.1), (Enc.enc (aG_1.2 : List (Int × Int)))]))), (4, (.bool false)), (6, (.bool r_7.1)), (7, (.bool r_7.2)), (8, (.ref (.bx 8) 0 [] (.agg [(.int .i64 r_8.1), (Enc.enc (r_8.2 : List (Int × Int)))]))), (9, (Enc.enc (r_9 : List (List Int)))), (10, (.bool r_10.1)), (11, (.bool r_10.2))] ⟨h1, h2, h4, h6, h7, h8, h9, rfl, rfl⟩ ?_
      rintro s ⟨h1, h2, h4, h6, h7, h8, h9, h10, h11⟩
      refine .nsq ?_
      refine .seq ?_
      refine .seq ?_
      refine run_reg ?_
      refine e_end ?_
      refine g_v1 (t := 10) (u := (.bool r_10.1)) (.bool r_10.1) h10 rfl rfl ?_
      refine g_v1 (t := 6) (u := (.bool r_7.1)) (.bool r_7.1) h6 rfl rfl ?_
      refine g_v2 (t1 := 40) (t2 := 41) (u1 := (.bool r_10.1)) (u2 := (.bool r_7.1)) (.bool (r_10.1 != r_7.1)) rfl rfl rfl rfl ?_
      refine g_v1 (t := 42) (u := (.bool (r_10.1 != r_7.1))) (.bool (r_10.1 != r_7.1)) rfl rfl rfl ?_
      refine split_on (c := (r_10.1 != r_7.1)) h (fun hg4 h => ?_) (fun hg4 h => ?_)
      · refine g_no (Eq.trans (b := .bool (r_10.1 != r_7.1)) rfl (congrArg V.bool hg4)) ?_
        refine g_no (Eq.trans (b := .bool (r_10.1 != r_7.1)) rfl (congrArg V.bool hg4)) ?_
        refine g_no (Eq.trans (b := .bool (r_10.1 != r_7.1)) rfl (congrArg V.bool hg4)) ?_
        refine g_v2 (t1 := 43) (t2 := 46) (u1 := (.bool true)) (u2 := (.tup [])) (.bool true) (Eq.trans (b := .bool (r_10.1 != r_7.1)) rfl (congrArg V.bool hg4)) rfl rfl rfl ?_
        refine g_end ?_
        refine e_end ?_
        refine renew [(1, (Enc.enc (aBags_2 : List (List Int)))), (2, (.ref (.bx 2) 0 [] (.agg [(.int .i64 aG_1.1), (Enc.enc (aG_1.2 : List (Int × Int)))]))), (4, (.bool false)), (8, (.ref (.bx 8) 0 [] (.agg [(.int .i64 r_8.1), (Enc.enc (r_8.2 : List (Int × Int)))]))), (9, (Enc.enc (r_9 : List (List Int)))), (47, (.bool true))] ⟨h1, h2, h4, h8, h9, rfl⟩ ?_
        rintro s ⟨h1, h2, h4, h8, h9, h47⟩
        exact t_f5_j1 H aBags_2 aG_1 r_8 r_9 true _ ⟨h1, h2, h4, h8, h9, h47⟩ h
      · refine g_yes (Eq.trans (b := .bool (r_10.1 != r_7.1)) rfl (congrArg V.bool hg4)) (g_v1 (t := 11) (u := (.bool r_10.2)) (.bool r_10.2) h11 rfl rfl ?_)
        refine g_yes (Eq.trans (b := .bool (r_10.1 != r_7.1)) rfl (congrArg V.bool hg4)) (g_v1 (t := 7) (u := (.bool r_7.2)) (.bool r_7.2) h7 rfl rfl ?_)
        refine g_yes (Eq.trans (b := .bool (r_10.1 != r_7.1)) rfl (congrArg V.bool hg4)) (g_v2 (t1 := 44) (t2 := 45) (u1 := (.bool r_10.2)) (u2 := (.bool r_7.2)) (.bool (r_10.2 != r_7.2)) rfl rfl rfl rfl ?_)
        refine g_v2 (t1 := 43) (t2 := 46) (u1 := (.bool false)) (u2 := (.bool (r_10.2 != r_7.2))) (.bool (r_10.2 != r_7.2)) (Eq.trans (b := .bool (r_10.1 != r_7.1)) rfl (congrArg V.bool hg4)) rfl rfl rfl ?_
        refine g_end ?_
        refine e_end ?_
        refine renew [(1, (Enc.enc (aBags_2 : List (List Int)))), (2, (.ref (.bx 2) 0 [] (.agg [(.int .i64 aG_1.1), (Enc.enc (aG_1.2 : List (Int × Int)))]))), (4, (.bool false)), (8, (.ref (.bx 8) 0 [] (.agg [(.int .i64 r_8.1), (Enc.enc (r_8.2 : List (Int × Int)))]))), (9, (Enc.enc (r_9 : List (List Int)))), (47, (.bool (r_10.2 != r_7.2)))] ⟨h1, h2, h4, h8, h9, rfl⟩ ?_
        rintro s ⟨h1, h2, h4, h8, h9, h47⟩
        exact t_f5_j1 H aBags_2 aG_1 r_8 r_9 (r_10.2 != r_7.2) _ ⟨h1, h2, h4, h8, h9, h47⟩ h
end
def e5 (F : Nat) : Ent := ⟨5, da (fun (x : ((Int × (List (Int × Int))) × (List (List Int)) × Unit)) => w_FnExactIsPathDecomposition F x.1 x.2.1) (fun (r : Bool) => (Enc.enc (r : Bool))), 0, false, selF []⟩
theorem p5 {F : Nat} {x0 : (Int × (List (Int × Int)))} {x1 : (List (List Int))} {r : Bool} (h : w_FnExactIsPathDecomposition F x0 x1 = some r) : (e5 F).den [Enc.enc x0, Enc.enc x1] = some (Enc.enc (r : Bool)) := da_put (f := fun (x : ((Int × (List (Int × Int))) × (List (List Int)) × Unit)) => w_FnExactIsPathDecomposition F x.1 x.2.1) (t := fun (r : Bool) => (Enc.enc (r : Bool))) (x0, x1, ()) h
theorem o5 {D : Den} {σ : Sig} {F : Nat} (hF : Fits2 Try.prog D σ) (H : H5 D σ F) : (e5 F).Ok Try.prog := by
  refine ⟨fun args r h => ?_, ⟨Try.f5, Try.func5, rfl, rfl⟩⟩
  obtain ⟨⟨x0, x1, _⟩, y, rfl, hy, rfl⟩ := da_open h
  exact contract_run hF (by kernel_rfl) Try.func5 rfl c5 (show 2 ≤ Try.f5.ntmps by decide) (t5 H x0 x1 _ ⟨rfl, rfl⟩ hy)
end Go.Zq
