/- Functions of the program as typed functions, and that the machine runs as they say (part 2). No further condition. -/
import Derived.Test.YtodihaaheneikaaK2
import Derived.Test.YtodihaaheneikaaProg
import Derived.Test.YtodihaaheneikaaChecked
import Derived.KernelRfl
import Derived.Test.YtodihaaheneikaaG1
set_option linter.unusedVariables false
set_option linter.unusedSimpArgs false
/- Functions of the program, as typed functions, and that the machine runs as they say. -/
namespace Go.Zq
open Go.Proofs
/- loop.example/g01109/spec.l5Joined -/
def A98_2 : AC := (AC.cond (O.t 20) AC.skip (AC.exit 0))
def A98_6 : AC := (AC.cond (O.t 26) AC.skip (AC.exit 2))
def A98_10 : AC := (AC.reg [] [(I.mk (some 50) none false (X.v (A.mov (O.t 0)))), (I.mk (some 51) none false (X.v (A.mov (O.t 7)))), (I.mk (some 52) none false (X.v (A.idx (O.t 50) (O.t 51) 2))), (I.mk (some 53) none false (X.v (A.idxA (O.t 52) (O.k (V.int IntKind.i64 (Int.ofNat 0))) 2 1))), (I.mk (some 54) none false (X.v (A.load Sh.s (O.t 53)))), (I.mk (some 9) none false (X.v (A.mov (O.t 54))))] [])
def A98_9 : AC := (AC.cond (O.t 44) (AC.seq (AC.reg [] [(I.mk (some 45) none false (X.v (A.mov (O.t 0)))), (I.mk (some 46) none false (X.v (A.mov (O.t 7)))), (I.mk (some 47) none false (X.v (A.idx (O.t 45) (O.t 46) 2))), (I.mk (some 48) none false (X.v (A.idxA (O.t 47) (O.k (V.int IntKind.i64 (Int.ofNat 1))) 2 1))), (I.mk (some 49) none false (X.v (A.load Sh.s (O.t 48)))), (I.mk (some 8) none false (X.v (A.mov (O.t 49))))] []) A98_10) AC.skip)
def A98_12 : AC := (AC.cond (O.t 71) (AC.reg [.clr [74, 75]] [(I.mk (some 72) none false (X.v (A.mov (O.t 5)))), (I.mk (some 73) none false (X.v (A.mov (O.t 9)))), (I.mk (some 74) none false (X.lit (V.int IntKind.i64 (Int.ofNat 0)) 1 [(0, 0, (O.t 73))])), (I.mk (some 75) none false (X.app Sh.s (O.t 72) (O.t 74))), (I.mk (some 5) none false (X.v (A.mov (O.t 75))))] [.home 75 5]) AC.skip)
def A98_11 : AC := (AC.seq (AC.reg [] [(I.mk (some 55) none false (X.v (A.mov (O.t 8)))), (I.mk (some 56) none false (X.v (A.mov (O.t 5)))), (I.mk (some 57) none false (X.v (A.mov (O.t 6)))), (I.mk (some 58) none false (X.v (A.idx (O.t 56) (O.t 57) 1))), (I.mk (some 59) none false (X.v (A.load Sh.s (O.t 58)))), (I.mk (some 60) none false (X.v (A.bin BinOp.eql (O.t 55) (O.t 59)))), (I.mk (some 61) none false (X.v (A.mov (O.t 60)))), (I.mk (some 62) (some (61, true)) false (X.v (A.mov (O.t 1)))), (I.mk (some 63) (some (61, true)) false (X.v (A.mov (O.t 9)))), (I.mk (some 64) (some (61, true)) false (X.call (O.k (V.fn 45 [] [])) [(O.t 62), (O.t 63)])), (I.mk (some 65) none false (X.v (A.pick (O.t 61) (O.t 64) (O.k (V.bool false))))), (I.mk (some 66) none false (X.v (A.mov (O.t 65)))), (I.mk (some 67) (some (66, true)) false (X.v (A.mov (O.t 5)))), (I.mk (some 68) (some (66, true)) false (X.v (A.mov (O.t 9)))), (I.mk (some 69) (some (66, true)) false (X.call (O.k (V.fn 45 [] [])) [(O.t 67), (O.t 68)])), (I.mk (some 70) (some (66, true)) false (X.v (A.un UnOp.not (O.t 69)))), (I.mk (some 71) none false (X.v (A.pick (O.t 66) (O.t 70) (O.k (V.bool false)))))] []) A98_12)
def A98_8 : AC := (AC.seq (AC.seq (AC.reg [] [(I.mk (some 39) none false (X.v (A.mov (O.t 9)))), (I.mk (some 40) none false (X.v (A.mov (O.t 5)))), (I.mk (some 41) none false (X.v (A.mov (O.t 6)))), (I.mk (some 42) none false (X.v (A.idx (O.t 40) (O.t 41) 1))), (I.mk (some 43) none false (X.v (A.load Sh.s (O.t 42)))), (I.mk (some 44) none false (X.v (A.bin BinOp.eql (O.t 39) (O.t 43))))] []) A98_9) A98_11)
def A98_13 : AC := (AC.reg [] [(I.mk (some 27) none false (X.v (A.mov (O.t 7)))), (I.mk (some 28) none false (X.v (A.bin BinOp.add (O.t 27) (O.k (V.int IntKind.i64 (Int.ofNat 1)))))), (I.mk (some 7) none false (X.v (A.mov (O.t 28))))] [])
def A98_7 : AC := (AC.seq (AC.block 3 (AC.seq (AC.reg [] [(I.mk (some 29) none false (X.v (A.mov (O.t 0)))), (I.mk (some 30) none false (X.v (A.mov (O.t 7)))), (I.mk (some 31) none false (X.v (A.idx (O.t 29) (O.t 30) 2))), (I.mk (some 32) none false (X.v (A.idxA (O.t 31) (O.k (V.int IntKind.i64 (Int.ofNat 0))) 2 1))), (I.mk (some 33) none false (X.v (A.load Sh.s (O.t 32)))), (I.mk (some 34) none false (X.v (A.mov (O.t 0)))), (I.mk (some 35) none false (X.v (A.mov (O.t 7)))), (I.mk (some 36) none false (X.v (A.idx (O.t 34) (O.t 35) 2))), (I.mk (some 37) none false (X.v (A.idxA (O.t 36) (O.k (V.int IntKind.i64 (Int.ofNat 1))) 2 1))), (I.mk (some 38) none false (X.v (A.load Sh.s (O.t 37)))), (I.mk (some 8) none false (X.v (A.mov (O.t 33)))), (I.mk (some 9) none false (X.v (A.mov (O.t 38))))] []) A98_8)) A98_13)
def A98_5 : AC := (AC.seq (AC.seq (AC.reg [] [(I.mk (some 23) none false (X.v (A.mov (O.t 7)))), (I.mk (some 24) none false (X.v (A.mov (O.t 0)))), (I.mk (some 25) none false (X.v (A.len (O.t 24)))), (I.mk (some 26) none false (X.v (A.bin BinOp.lss (O.t 23) (O.t 25))))] []) A98_6) A98_7)
def A98_4 : AC := (AC.block 2 (AC.loop A98_5))
def A98_14 : AC := (AC.reg [] [(I.mk (some 21) none false (X.v (A.mov (O.t 6)))), (I.mk (some 22) none false (X.v (A.bin BinOp.add (O.t 21) (O.k (V.int IntKind.i64 (Int.ofNat 1)))))), (I.mk (some 6) none false (X.v (A.mov (O.t 22))))] [])
def A98_3 : AC := (AC.seq (AC.block 1 (AC.seq (AC.reg [] [(I.mk (some 7) none false (X.v (A.mov (O.k (V.int IntKind.i64 (Int.ofNat 0))))))] []) A98_4)) A98_14)
def A98_1 : AC := (AC.seq (AC.seq (AC.reg [] [(I.mk (some 17) none false (X.v (A.mov (O.t 6)))), (I.mk (some 18) none false (X.v (A.mov (O.t 5)))), (I.mk (some 19) none false (X.v (A.len (O.t 18)))), (I.mk (some 20) none false (X.v (A.bin BinOp.lss (O.t 17) (O.t 19))))] []) A98_2) A98_3)
def A98_15 : AC := (AC.seq (AC.reg [] [(I.mk (some 76) none false (X.v (A.mov (O.t 5)))), (I.mk (some 77) none false (X.v (A.len (O.t 76)))), (I.mk (some 78) none false (X.v (A.mov (O.t 1)))), (I.mk (some 79) none false (X.v (A.len (O.t 78)))), (I.mk (some 80) none false (X.v (A.bin BinOp.eql (O.t 77) (O.t 79)))), (I.mk (some 4) none false (X.v (A.mov (O.t 80))))] []) AC.ret)
def A98_17 : AC := (AC.cond (O.t 12) (AC.seq (AC.reg [] [(I.mk (some 4) none false (X.v (A.mov (O.k (V.bool true)))))] []) AC.ret) AC.skip)
def A98_20 : AC := (AC.block 0 (AC.loop A98_1))
def A98_19 : AC := (AC.seq (AC.seq (AC.reg [] [(I.mk (some 6) none false (X.v (A.mov (O.k (V.int IntKind.i64 (Int.ofNat 0))))))] []) A98_20) A98_15)
def A98_18 : AC := (AC.seq (AC.reg [.clr [16]] [(I.mk (some 13) none false (X.v (A.mov (O.t 1)))), (I.mk (some 14) none false (X.v (A.idx (O.t 13) (O.k (V.int IntKind.i64 (Int.ofNat 0))) 1))), (I.mk (some 15) none false (X.v (A.load Sh.s (O.t 14)))), (I.mk (some 16) none false (X.lit (V.int IntKind.i64 (Int.ofNat 0)) 1 [(0, 0, (O.t 15))])), (I.mk (some 5) none false (X.v (A.mov (O.t 16))))] [.home 16 5]) A98_19)
def A98_16 : AC := (AC.seq (AC.seq (AC.reg [] [(I.mk (some 10) none false (X.v (A.mov (O.t 1)))), (I.mk (some 11) none false (X.v (A.len (O.t 10)))), (I.mk (some 12) none false (X.v (A.bin BinOp.eql (O.t 11) (O.k (V.int IntKind.i64 (Int.ofNat 0))))))] []) A98_17) A98_18)
def A98 : AC := (AC.seq (AC.reg [] [(I.mk (some 4) none false (X.v (A.mov (O.k (V.bool false)))))] []) A98_16)
def an98 : List An := [{ id := 3, pre := [.clr [16]], ep := [.home 16 5], lin := [], sp := [] }, { id := 15, pre := [.clr [74, 75]], ep := [.home 75 5], lin := [], sp := [] }]
theorem c98 : cC Try.prog Try.f98.ntmps an98 (Try.f98.body.getD .skip) = some A98 := by kernel_rfl
structure H98 (D : Den) (σ : Sig) (F : Nat) : Prop where
  c45 : ∀ (x0 : (List Int)) (x1 : Int) r, s_l1Has F x0 x1 = some r → D 45 [Enc.enc x0, Enc.enc x1] = some (Enc.enc (r : Bool))
  g45 : σ 45 = some (0, false)
abbrev R98 (r : Bool) : (Nat → V) → Prop := RR Try.prog [.tmp 4] 0 false (Enc.enc (r : Bool))
section
variable {D : Den} {σ : Sig} {F : Nat} {r : Bool}
def s_l5Joined_j1 (F : Nat) (edges_1 : (List (Int × Int))) (some_2 : (List Int)) (k_64 : Int) (i_144 : Int) (c1 : (List Int) → Int → Option Bool) (c4 : (List Int) → Int → Option Bool) (seen_176 : (List Int)) : Option Bool :=
  c4 seen_176 (w64 (i_144 + 1))
theorem t_f98_j1 (H : H98 D σ F) (edges_1 : (List (Int × Int))) (some_2 : (List Int)) (k_64 : Int) (i_144 : Int) (c1 : (List Int) → Int → Option Bool) (Hc1 : ∀ (seen_63 : (List Int)) (k_64 : Int) (s : Nat → V), Facts [(0, (Enc.enc (edges_1 : List (Int × Int)))), (1, (Enc.enc (some_2 : List Int))), (4, (.bool false)), (5, (encO (.at 5 []) (.of (seen_63 : List Int)))), (6, (.int .i64 k_64))] s → c1 seen_63 k_64 = some r → Run D σ (R98 r) (.run A98_1 [.lp A98_1, .bk 0, .sq A98_15]) s) (c4 : (List Int) → Int → Option Bool) (Hc4 : ∀ (seen_143 : (List Int)) (i_144 : Int) (s : Nat → V), Facts [(0, (Enc.enc (edges_1 : List (Int × Int)))), (1, (Enc.enc (some_2 : List Int))), (4, (.bool false)), (5, (encO (.at 5 []) (.of (seen_143 : List Int)))), (6, (.int .i64 k_64)), (7, (.int .i64 i_144))] s → c4 seen_143 i_144 = some r → Run D σ (R98 r) (.run A98_5 [.lp A98_5, .bk 2, .bk 1, .sq A98_14, .lp A98_1, .bk 0, .sq A98_15]) s) (seen_176 : (List Int)) (s : Nat → V) (hs : Facts [(0, (Enc.enc (edges_1 : List (Int × Int)))), (1, (Enc.enc (some_2 : List Int))), (4, (.bool false)), (5, (encO (.at 5 []) (.of (seen_176 : List Int)))), (6, (.int .i64 k_64)), (7, (.int .i64 i_144))] s) (h : s_l5Joined_j1 F edges_1 some_2 k_64 i_144 c1 c4 seen_176 = some r) : Run D σ (R98 r) (.nrm [.bk 3, .sq A98_13, .lp A98_5, .bk 2, .bk 1, .sq A98_14, .lp A98_1, .bk 0, .sq A98_15]) s := by
  unfold s_l5Joined_j1 at h
  obtain ⟨h0, h1, h4, h5, h6, h7⟩ := hs
  refine .nbk ?_
  refine .nsq ?_
  refine run_reg ?_
  refine e_end ?_
  refine g_v1 (t := 7) (u := (.int .i64 i_144)) (.int .i64 i_144) h7 rfl rfl ?_
  refine g_v1 (t := 27) (u := (.int .i64 i_144)) (.int .i64 (w64 (i_144 + 1))) rfl rfl rfl ?_
  refine g_v1 (t := 28) (u := (.int .i64 (w64 (i_144 + 1)))) (.int .i64 (w64 (i_144 + 1))) rfl rfl rfl ?_
  refine g_end ?_
  refine e_end ?_
  refine renew [(0, (Enc.enc (edges_1 : List (Int × Int)))), (1, (Enc.enc (some_2 : List Int))), (4, (.bool false)), (5, (encO (.at 5 []) (.of (seen_176 : List Int)))), (6, (.int .i64 k_64)), (7, (.int .i64 (w64 (i_144 + 1))))] ⟨h0, h1, h4, h5, h6, rfl⟩ ?_
  rintro s ⟨h0, h1, h4, h5, h6, h7⟩
  refine .nlp ?_
  exact Hc4 seen_176 (w64 (i_144 + 1)) _ ⟨h0, h1, h4, h5, h6, h7⟩ h
def s_l5Joined_j2 (F : Nat) (edges_1 : (List (Int × Int))) (some_2 : (List Int)) (seen_143 : (List Int)) (k_64 : Int) (i_144 : Int) (b_170 : Int) (c1 : (List Int) → Int → Option Bool) (c4 : (List Int) → Int → Option Bool) (t71_174 : Bool) : Option Bool :=
  bif t71_174 then
    (appL seen_143 [b_170]).bind fun ap_177 =>
    s_l5Joined_j1 F edges_1 some_2 k_64 i_144 c1 c4 ap_177
  else
    s_l5Joined_j1 F edges_1 some_2 k_64 i_144 c1 c4 seen_143
theorem t_f98_j2 (H : H98 D σ F) (edges_1 : (List (Int × Int))) (some_2 : (List Int)) (seen_143 : (List Int)) (k_64 : Int) (i_144 : Int) (b_170 : Int) (c1 : (List Int) → Int → Option Bool) (Hc1 : ∀ (seen_63 : (List Int)) (k_64 : Int) (s : Nat → V), Facts [(0, (Enc.enc (edges_1 : List (Int × Int)))), (1, (Enc.enc (some_2 : List Int))), (4, (.bool false)), (5, (encO (.at 5 []) (.of (seen_63 : List Int)))), (6, (.int .i64 k_64))] s → c1 seen_63 k_64 = some r → Run D σ (R98 r) (.run A98_1 [.lp A98_1, .bk 0, .sq A98_15]) s) (c4 : (List Int) → Int → Option Bool) (Hc4 : ∀ (seen_143 : (List Int)) (i_144 : Int) (s : Nat → V), Facts [(0, (Enc.enc (edges_1 : List (Int × Int)))), (1, (Enc.enc (some_2 : List Int))), (4, (.bool false)), (5, (encO (.at 5 []) (.of (seen_143 : List Int)))), (6, (.int .i64 k_64)), (7, (.int .i64 i_144))] s → c4 seen_143 i_144 = some r → Run D σ (R98 r) (.run A98_5 [.lp A98_5, .bk 2, .bk 1, .sq A98_14, .lp A98_1, .bk 0, .sq A98_15]) s) (t71_174 : Bool) (s : Nat → V) (hs : Facts [(0, (Enc.enc (edges_1 : List (Int × Int)))), (1, (Enc.enc (some_2 : List Int))), (4, (.bool false)), (5, (encO (.at 5 []) (.of (seen_143 : List Int)))), (6, (.int .i64 k_64)), (7, (.int .i64 i_144)), (9, (.int .i64 b_170)), (71, (.bool t71_174))] s) (h : s_l5Joined_j2 F edges_1 some_2 seen_143 k_64 i_144 b_170 c1 c4 t71_174 = some r) : Run D σ (R98 r) (.nrm [.sq A98_12, .bk 3, .sq A98_13, .lp A98_5, .bk 2, .bk 1, .sq A98_14, .lp A98_1, .bk 0, .sq A98_15]) s := by
  unfold s_l5Joined_j2 at h
  obtain ⟨h0, h1, h4, h5, h6, h7, h9, h71⟩ := hs
  refine .nsq ?_
  refine run_cond (t := t71_174) h71 h (fun h => ?_) (fun h => ?_)
  · refine run_reg ?_
    refine e_clr ?_
    refine e_end ?_
    refine g_v1 (t := 5) (u := (encO (.at 5 []) (.of (seen_143 : List Int)))) (encO (.at 5 []) (.of (seen_143 : List Int))) (keep_clear (s := s) (pk := [74, 75]) h5 rfl (map_encO (r := 5) (p := []) rfl rfl)) rfl rfl ?_
    refine g_v1 (t := 9) (u := (.int .i64 b_170)) (.int .i64 b_170) (keep_clear (s := s) (pk := [74, 75]) h9 rfl rfl) rfl rfl ?_
    refine g_litL [(73, (.int .i64 b_170))] [Enc.enc (b_170 : Int)] rfl rfl rfl (gone_clear (s := s) (pk := [74, 75]) (t := 74) rfl) ?_
    obtain ⟨ap_177, E_ap_177, h⟩ := bind_some h
    refine g_app (q := 5) (p := []) (o := (.of (seen_143 : List Int))) (ys := ([b_170] : List Int)) (t2 := (.at 74 [])) (lo2 := 0) rfl rfl rfl (gone_clear (s := s) (pk := [74, 75]) (t := 75) rfl) (appN_L (o := (.of (seen_143 : List Int))) E_ap_177 trivial) (fun s_55 ha_55 => ?_)
    refine g_v1 (t := 75) (u := (encO (.at 75 []) (.of (ap_177 : List Int)))) (encO (.at 75 []) (.of (ap_177 : List Int))) rfl rfl rfl ?_
    refine g_end ?_
    refine e_home (r := 75) (x := 5) (v := (encO (.at 75 []) (.of (ap_177 : List Int)))) (by exact rfl) rfl (fun s_56 hg_56 => ?_)
    refine e_end ?_
    refine renew [(0, (Enc.enc (edges_1 : List (Int × Int)))), (1, (Enc.enc (some_2 : List Int))), (4, (.bool false)), (5, (encO (.at 5 []) (.of (ap_177 : List Int)))), (6, (.int .i64 k_64)), (7, (.int .i64 i_144))] ⟨(hg_56 0 (Enc.enc (edges_1 : List (Int × Int))) (Enc.enc (edges_1 : List (Int × Int))) (show s_55 0 = (Enc.enc (edges_1 : List (Int × Int))) from keep_app ha_55 (keep_clear (s := s) (pk := [74, 75]) h0 rfl (Enc.map_enc _ (edges_1 : List (Int × Int)))) (Enc.map_enc _ (edges_1 : List (Int × Int)))) (Enc.map_enc _ (edges_1 : List (Int × Int)))), (hg_56 1 (Enc.enc (some_2 : List Int)) (Enc.enc (some_2 : List Int)) (show s_55 1 = (Enc.enc (some_2 : List Int)) from keep_app ha_55 (keep_clear (s := s) (pk := [74, 75]) h1 rfl (Enc.map_enc _ (some_2 : List Int))) (Enc.map_enc _ (some_2 : List Int))) (Enc.map_enc _ (some_2 : List Int))), (hg_56 4 (.bool false) (.bool false) (show s_55 4 = (.bool false) from keep_app ha_55 (keep_clear (s := s) (pk := [74, 75]) h4 rfl rfl) rfl) rfl), (hg_56 5 (encO (.at 75 []) (.of (ap_177 : List Int))) (encO (.at 5 []) (.of (ap_177 : List Int))) rfl (map_encO (r := 75) (p := []) rfl rfl)), (hg_56 6 (.int .i64 k_64) (.int .i64 k_64) (show s_55 6 = (.int .i64 k_64) from keep_app ha_55 (keep_clear (s := s) (pk := [74, 75]) h6 rfl rfl) rfl) rfl), (hg_56 7 (.int .i64 i_144) (.int .i64 i_144) (show s_55 7 = (.int .i64 i_144) from keep_app ha_55 (keep_clear (s := s) (pk := [74, 75]) h7 rfl rfl) rfl) rfl)⟩ ?_
    rintro s ⟨h0, h1, h4, h5, h6, h7⟩
    exact t_f98_j1 H edges_1 some_2 k_64 i_144 c1 Hc1 c4 Hc4 ap_177 _ ⟨h0, h1, h4, h5, h6, h7⟩ h
  · refine .skip ?_
    exact t_f98_j1 H edges_1 some_2 k_64 i_144 c1 Hc1 c4 Hc4 seen_143 _ ⟨h0, h1, h4, h5, h6, h7⟩ h
def s_l5Joined_j3 (F : Nat) (edges_1 : (List (Int × Int))) (some_2 : (List Int)) (seen_143 : (List Int)) (k_64 : Int) (i_144 : Int) (c1 : (List Int) → Int → Option Bool) (c4 : (List Int) → Int → Option Bool) (a_169 : Int) (b_170 : Int) : Option Bool :=
  (idx seen_143 k_64).bind fun e_178 =>
  bif (a_169 == e_178) then
    (s_l1Has F some_2 b_170).bind fun r_179 =>
    bif r_179 then
      (s_l1Has F seen_143 b_170).bind fun r_180 =>
      s_l5Joined_j2 F edges_1 some_2 seen_143 k_64 i_144 b_170 c1 c4 (!r_180)
    else
      s_l5Joined_j2 F edges_1 some_2 seen_143 k_64 i_144 b_170 c1 c4 false
  else
    s_l5Joined_j2 F edges_1 some_2 seen_143 k_64 i_144 b_170 c1 c4 false
theorem t_f98_j3 (H : H98 D σ F) (edges_1 : (List (Int × Int))) (some_2 : (List Int)) (seen_143 : (List Int)) (k_64 : Int) (i_144 : Int) (c1 : (List Int) → Int → Option Bool) (Hc1 : ∀ (seen_63 : (List Int)) (k_64 : Int) (s : Nat → V), Facts [(0, (Enc.enc (edges_1 : List (Int × Int)))), (1, (Enc.enc (some_2 : List Int))), (4, (.bool false)), (5, (encO (.at 5 []) (.of (seen_63 : List Int)))), (6, (.int .i64 k_64))] s → c1 seen_63 k_64 = some r → Run D σ (R98 r) (.run A98_1 [.lp A98_1, .bk 0, .sq A98_15]) s) (c4 : (List Int) → Int → Option Bool) (Hc4 : ∀ (seen_143 : (List Int)) (i_144 : Int) (s : Nat → V), Facts [(0, (Enc.enc (edges_1 : List (Int × Int)))), (1, (Enc.enc (some_2 : List Int))), (4, (.bool false)), (5, (encO (.at 5 []) (.of (seen_143 : List Int)))), (6, (.int .i64 k_64)), (7, (.int .i64 i_144))] s → c4 seen_143 i_144 = some r → Run D σ (R98 r) (.run A98_5 [.lp A98_5, .bk 2, .bk 1, .sq A98_14, .lp A98_1, .bk 0, .sq A98_15]) s) (a_169 : Int) (b_170 : Int) (s : Nat → V) (hs : Facts [(0, (Enc.enc (edges_1 : List (Int × Int)))), (1, (Enc.enc (some_2 : List Int))), (4, (.bool false)), (5, (encO (.at 5 []) (.of (seen_143 : List Int)))), (6, (.int .i64 k_64)), (7, (.int .i64 i_144)), (8, (.int .i64 a_169)), (9, (.int .i64 b_170))] s) (h : s_l5Joined_j3 F edges_1 some_2 seen_143 k_64 i_144 c1 c4 a_169 b_170 = some r) : Run D σ (R98 r) (.nrm [.sq A98_11, .bk 3, .sq A98_13, .lp A98_5, .bk 2, .bk 1, .sq A98_14, .lp A98_1, .bk 0, .sq A98_15]) s := by
  unfold s_l5Joined_j3 at h
  obtain ⟨h0, h1, h4, h5, h6, h7, h8, h9⟩ := hs
  refine .nsq ?_
  refine .seq ?_
  refine run_reg ?_
  refine e_end ?_
  refine g_v1 (t := 8) (u := (.int .i64 a_169)) (.int .i64 a_169) h8 rfl rfl ?_
  refine g_v1 (t := 5) (u := (encO (.at 5 []) (.of (seen_143 : List Int)))) (encO (.at 5 []) (.of (seen_143 : List Int))) h5 rfl rfl ?_
  refine g_v1 (t := 6) (u := (.int .i64 k_64)) (.int .i64 k_64) h6 rfl rfl ?_
  obtain ⟨e_178, E_e_178, h⟩ := bind_some h
  refine g_v (.ref (.at 5 []) k_64.toNat [] (.int .i64 e_178)) (ev_idxO (o := (.of seen_143)) rfl rfl E_e_178 rfl) ?_
  refine g_v1 (t := 58) (u := (.ref (.at 5 []) k_64.toNat [] (.int .i64 e_178))) (.int .i64 e_178) rfl rfl rfl ?_
  refine g_v2 (t1 := 55) (t2 := 59) (u1 := (.int .i64 a_169)) (u2 := (.int .i64 e_178)) (.bool (a_169 == e_178)) rfl rfl rfl rfl ?_
  refine g_v1 (t := 60) (u := (.bool (a_169 == e_178))) (.bool (a_169 == e_178)) rfl rfl rfl ?_
  refine split_on (c := (a_169 == e_178)) h (fun hg7 h => ?_) (fun hg7 h => ?_)
  · refine g_yes (Eq.trans (b := .bool (a_169 == e_178)) rfl (congrArg V.bool hg7)) (g_v1 (t := 1) (u := (Enc.enc (some_2 : List Int))) (Enc.enc (some_2 : List Int)) h1 rfl rfl ?_)
    refine g_yes (Eq.trans (b := .bool (a_169 == e_178)) rfl (congrArg V.bool hg7)) (g_v1 (t := 9) (u := (.int .i64 b_170)) (.int .i64 b_170) h9 rfl rfl ?_)
    obtain ⟨r_179, E_r_179, h⟩ := bind_some h
    refine g_yes (Eq.trans (b := .bool (a_169 == e_178)) rfl (congrArg V.bool hg7)) (g_call (m := 0) (al := false) (r := (Enc.enc (r_179 : Bool))) [Enc.enc (some_2 : (List Int)), Enc.enc (b_170 : Int)] (ta_cons (v := (Enc.enc (some_2 : List Int))) rfl rfl (Enc.erase_enc (some_2 : (List Int))) (ta_cons (v := (.int .i64 b_170)) rfl rfl rfl ta_nil)) (H.c45 _ _ _ E_r_179) H.g45 rfl rfl rfl rfl ?_)
    refine g_v2 (t1 := 61) (t2 := 64) (u1 := (.bool true)) (u2 := (.bool r_179)) (.bool r_179) (Eq.trans (b := .bool (a_169 == e_178)) rfl (congrArg V.bool hg7)) rfl rfl rfl ?_
    refine g_v1 (t := 65) (u := (.bool r_179)) (.bool r_179) rfl rfl rfl ?_
    refine split_on (c := r_179) h (fun hg12 h => ?_) (fun hg12 h => ?_)
    · refine g_yes (Eq.trans (b := .bool r_179) rfl (congrArg V.bool hg12)) (g_v1 (t := 5) (u := (encO (.at 5 []) (.of (seen_143 : List Int)))) (encO (.at 5 []) (.of (seen_143 : List Int))) h5 rfl rfl ?_)
      refine g_yes (Eq.trans (b := .bool r_179) rfl (congrArg V.bool hg12)) (g_v1 (t := 9) (u := (.int .i64 b_170)) (.int .i64 b_170) h9 rfl rfl ?_)
      obtain ⟨r_180, E_r_180, h⟩ := bind_some h
      refine g_yes (Eq.trans (b := .bool r_179) rfl (congrArg V.bool hg12)) (g_call (m := 0) (al := false) (r := (Enc.enc (r_180 : Bool))) [Enc.enc (seen_143 : (List Int)), Enc.enc (b_170 : Int)] (ta_cons (v := (encO (.at 5 []) (.of (seen_143 : List Int)))) rfl rfl (erase_encO (o := .of seen_143)) (ta_cons (v := (.int .i64 b_170)) rfl rfl rfl ta_nil)) (H.c45 _ _ _ E_r_180) H.g45 rfl rfl rfl rfl ?_)
      refine g_yes (Eq.trans (b := .bool r_179) rfl (congrArg V.bool hg12)) (g_v1 (t := 69) (u := (.bool r_180)) (.bool (!r_180)) rfl rfl rfl ?_)
      refine g_v2 (t1 := 66) (t2 := 70) (u1 := (.bool true)) (u2 := (.bool (!r_180))) (.bool (!r_180)) (Eq.trans (b := .bool r_179) rfl (congrArg V.bool hg12)) rfl rfl rfl ?_
      refine g_end ?_
      refine e_end ?_
      refine renew [(0, (Enc.enc (edges_1 : List (Int × Int)))), (1, (Enc.enc (some_2 : List Int))), (4, (.bool false)), (5, (encO (.at 5 []) (.of (seen_143 : List Int)))), (6, (.int .i64 k_64)), (7, (.int .i64 i_144)), (9, (.int .i64 b_170)), (71, (.bool (!r_180)))] ⟨h0, h1, h4, h5, h6, h7, h9, rfl⟩ ?_
      rintro s ⟨h0, h1, h4, h5, h6, h7, h9, h71⟩
      exact t_f98_j2 H edges_1 some_2 seen_143 k_64 i_144 b_170 c1 Hc1 c4 Hc4 (!r_180) _ ⟨h0, h1, h4, h5, h6, h7, h9, h71⟩ h
    · refine g_no (Eq.trans (b := .bool r_179) rfl (congrArg V.bool hg12)) ?_
      refine g_no (Eq.trans (b := .bool r_179) rfl (congrArg V.bool hg12)) ?_
      refine g_no (Eq.trans (b := .bool r_179) rfl (congrArg V.bool hg12)) ?_
      refine g_no (Eq.trans (b := .bool r_179) rfl (congrArg V.bool hg12)) ?_
      refine g_v2 (t1 := 66) (t2 := 70) (u1 := (.bool false)) (u2 := (.tup [])) (.bool false) (Eq.trans (b := .bool r_179) rfl (congrArg V.bool hg12)) rfl rfl rfl ?_
      refine g_end ?_
      refine e_end ?_
      refine renew [(0, (Enc.enc (edges_1 : List (Int × Int)))), (1, (Enc.enc (some_2 : List Int))), (4, (.bool false)), (5, (encO (.at 5 []) (.of (seen_143 : List Int)))), (6, (.int .i64 k_64)), (7, (.int .i64 i_144)), (9, (.int .i64 b_170)), (71, (.bool false))] ⟨h0, h1, h4, h5, h6, h7, h9, rfl⟩ ?_
      rintro s ⟨h0, h1, h4, h5, h6, h7, h9, h71⟩
      exact t_f98_j2 H edges_1 some_2 seen_143 k_64 i_144 b_170 c1 Hc1 c4 Hc4 false _ ⟨h0, h1, h4, h5, h6, h7, h9, h71⟩ h
  · refine g_no (Eq.trans (b := .bool (a_169 == e_178)) rfl (congrArg V.bool hg7)) ?_
    refine g_no (Eq.trans (b := .bool (a_169 == e_178)) rfl (congrArg V.bool hg7)) ?_
    refine g_no (Eq.trans (b := .bool (a_169 == e_178)) rfl (congrArg V.bool hg7)) ?_
    refine g_v2 (t1 := 61) (t2 := 64) (u1 := (.bool false)) (u2 := (.tup [])) (.bool false) (Eq.trans (b := .bool (a_169 == e_178)) rfl (congrArg V.bool hg7)) rfl rfl rfl ?_
    refine g_v1 (t := 65) (u := (.bool false)) (.bool false) rfl rfl rfl ?_
    refine g_no rfl ?_
    refine g_no rfl ?_
    refine g_no rfl ?_
    refine g_no rfl ?_
    refine g_v2 (t1 := 66) (t2 := 70) (u1 := (.bool false)) (u2 := (.tup [])) (.bool false) rfl rfl rfl rfl ?_
    refine g_end ?_
    refine e_end ?_
    refine renew [(0, (Enc.enc (edges_1 : List (Int × Int)))), (1, (Enc.enc (some_2 : List Int))), (4, (.bool false)), (5, (encO (.at 5 []) (.of (seen_143 : List Int)))), (6, (.int .i64 k_64)), (7, (.int .i64 i_144)), (9, (.int .i64 b_170)), (71, (.bool false))] ⟨h0, h1, h4, h5, h6, h7, h9, rfl⟩ ?_
    rintro s ⟨h0, h1, h4, h5, h6, h7, h9, h71⟩
    exact t_f98_j2 H edges_1 some_2 seen_143 k_64 i_144 b_170 c1 Hc1 c4 Hc4 false _ ⟨h0, h1, h4, h5, h6, h7, h9, h71⟩ h
def s_l5Joined_l1 (F : Nat) (edges_1 : (List (Int × Int))) (some_2 : (List Int)) (k_64 : Int) (c1 : (List Int) → Int → Option Bool) : Nat → (List Int) → Int → Option Bool
  | 0, _, _ => none
  | k + 1, seen_143, i_144 =>
    bif decide (i_144 < (edges_1.length : Int)) then
      (idx edges_1 i_144).bind fun e_164 =>
      (idx edges_1 i_144).bind fun e_165 =>
      (idx seen_143 k_64).bind fun e_166 =>
      bif (e_165.2 == e_166) then
        (idx edges_1 i_144).bind fun e_181 =>
        (idx edges_1 i_144).bind fun e_182 =>
        s_l5Joined_j3 F edges_1 some_2 seen_143 k_64 i_144 c1 (s_l5Joined_l1 F edges_1 some_2 k_64 c1 k) e_181.2 e_182.1
      else
        s_l5Joined_j3 F edges_1 some_2 seen_143 k_64 i_144 c1 (s_l5Joined_l1 F edges_1 some_2 k_64 c1 k) e_164.1 e_165.2
    else
      c1 seen_143 (w64 (k_64 + 1))
theorem t_f98_l1 (H : H98 D σ F) (edges_1 : (List (Int × Int))) (some_2 : (List Int)) (k_64 : Int) (c1 : (List Int) → Int → Option Bool) (Hc1 : ∀ (seen_63 : (List Int)) (k_64 : Int) (s : Nat → V), Facts [(0, (Enc.enc (edges_1 : List (Int × Int)))), (1, (Enc.enc (some_2 : List Int))), (4, (.bool false)), (5, (encO (.at 5 []) (.of (seen_63 : List Int)))), (6, (.int .i64 k_64))] s → c1 seen_63 k_64 = some r → Run D σ (R98 r) (.run A98_1 [.lp A98_1, .bk 0, .sq A98_15]) s) : ∀ (k : Nat) (seen_143 : (List Int)) (i_144 : Int) (s : Nat → V), Facts [(0, (Enc.enc (edges_1 : List (Int × Int)))), (1, (Enc.enc (some_2 : List Int))), (4, (.bool false)), (5, (encO (.at 5 []) (.of (seen_143 : List Int)))), (6, (.int .i64 k_64)), (7, (.int .i64 i_144))] s → s_l5Joined_l1 F edges_1 some_2 k_64 c1 k seen_143 i_144 = some r → Run D σ (R98 r) (.run A98_5 [.lp A98_5, .bk 2, .bk 1, .sq A98_14, .lp A98_1, .bk 0, .sq A98_15]) s := by
  intro k
  induction k with
  | zero => intro seen_143 i_144 s _ h; exact nomatch (h : (none : Option _) = some r)
  | succ k ih =>
    intro seen_143 i_144 s hs h
    rw [s_l5Joined_l1] at h
    obtain ⟨h0, h1, h4, h5, h6, h7⟩ := hs
    refine .seq ?_
    refine .seq ?_
    refine run_reg ?_
    refine e_end ?_
    refine g_v1 (t := 7) (u := (.int .i64 i_144)) (.int .i64 i_144) h7 rfl rfl ?_
    refine g_v1 (t := 0) (u := (Enc.enc (edges_1 : List (Int × Int)))) (Enc.enc (edges_1 : List (Int × Int))) h0 rfl rfl ?_
    refine g_v (.int .i64 (edges_1.length : Int)) (ev_len (xs := edges_1) rfl) ?_
    refine g_v2 (t1 := 23) (t2 := 25) (u1 := (.int .i64 i_144)) (u2 := (.int .i64 (edges_1.length : Int))) (.bool (decide (i_144 < (edges_1.length : Int)))) rfl rfl rfl rfl ?_
    refine g_end ?_
    refine e_end ?_
    refine renew [(0, (Enc.enc (edges_1 : List (Int × Int)))), (1, (Enc.enc (some_2 : List Int))), (4, (.bool false)), (5, (encO (.at 5 []) (.of (seen_143 : List Int)))), (6, (.int .i64 k_64)), (7, (.int .i64 i_144)), (26, (.bool (decide (i_144 < (edges_1.length : Int)))))] ⟨h0, h1, h4, h5, h6, h7, rfl⟩ ?_
    rintro s ⟨h0, h1, h4, h5, h6, h7, h26⟩
    refine .nsq ?_
    refine run_cond (t := decide (i_144 < (edges_1.length : Int))) h26 h (fun h => ?_) (fun h => ?_)
    · refine .skip ?_
      refine .nsq ?_
      refine .seq ?_
      refine .block ?_
      refine .seq ?_
      refine run_reg ?_
      refine e_end ?_
      refine g_v1 (t := 0) (u := (Enc.enc (edges_1 : List (Int × Int)))) (Enc.enc (edges_1 : List (Int × Int))) h0 rfl rfl ?_
      refine g_v1 (t := 7) (u := (.int .i64 i_144)) (.int .i64 i_144) h7 rfl rfl ?_
      obtain ⟨e_164, E_e_164, h⟩ := bind_some h
      refine g_v (.ref .sh 0 [] (.agg [(.int .i64 e_164.1), (.int .i64 e_164.2)])) (ev_idx (t := .sh) (lo := 0) (xs := edges_1) rfl rfl E_e_164 rfl rfl) ?_
      refine g_v1 (t := 31) (u := (.ref .sh 0 [] (.agg [(.int .i64 e_164.1), (.int .i64 e_164.2)]))) (.ref .sh 0 [0] (.int .i64 e_164.1)) rfl rfl rfl ?_
      refine g_v1 (t := 32) (u := (.ref .sh 0 [0] (.int .i64 e_164.1))) (.int .i64 e_164.1) rfl rfl rfl ?_
      refine g_v1 (t := 0) (u := (Enc.enc (edges_1 : List (Int × Int)))) (Enc.enc (edges_1 : List (Int × Int))) h0 rfl rfl ?_
      refine g_v1 (t := 7) (u := (.int .i64 i_144)) (.int .i64 i_144) h7 rfl rfl ?_
      obtain ⟨e_165, E_e_165, h⟩ := bind_some h
      refine g_v (.ref .sh 0 [] (.agg [(.int .i64 e_165.1), (.int .i64 e_165.2)])) (ev_idx (t := .sh) (lo := 0) (xs := edges_1) rfl rfl E_e_165 rfl rfl) ?_
      refine g_v1 (t := 36) (u := (.ref .sh 0 [] (.agg [(.int .i64 e_165.1), (.int .i64 e_165.2)]))) (.ref .sh 0 [1] (.int .i64 e_165.2)) rfl rfl rfl ?_
      refine g_v1 (t := 37) (u := (.ref .sh 0 [1] (.int .i64 e_165.2))) (.int .i64 e_165.2) rfl rfl rfl ?_
      refine g_v1 (t := 33) (u := (.int .i64 e_164.1)) (.int .i64 e_164.1) rfl rfl rfl ?_
      refine g_v1 (t := 38) (u := (.int .i64 e_165.2)) (.int .i64 e_165.2) rfl rfl rfl ?_
      refine g_end ?_
      refine e_end ?_
      refine renew [(0, (Enc.enc (edges_1 : List (Int × Int)))), (1, (Enc.enc (some_2 : List Int))), (4, (.bool false)), (5, (encO (.at 5 []) (.of (seen_143 : List Int)))), (6, (.int .i64 k_64)), (7, (.int .i64 i_144)), (8, (.int .i64 e_164.1)), (9, (.int .i64 e_165.2))] ⟨h0, h1, h4, h5, h6, h7, rfl, rfl⟩ ?_
      rintro s ⟨h0, h1, h4, h5, h6, h7, h8, h9⟩
      refine .nsq ?_
      refine .seq ?_
      refine .seq ?_
      refine run_reg ?_
      refine e_end ?_
      refine g_v1 (t := 9) (u := (.int .i64 e_165.2)) (.int .i64 e_165.2) h9 rfl rfl ?_
      refine g_v1 (t := 5) (u := (encO (.at 5 []) (.of (seen_143 : List Int)))) (encO (.at 5 []) (.of (seen_143 : List Int))) h5 rfl rfl ?_
      refine g_v1 (t := 6) (u := (.int .i64 k_64)) (.int .i64 k_64) h6 rfl rfl ?_
      obtain ⟨e_166, E_e_166, h⟩ := bind_some h
      refine g_v (.ref (.at 5 []) k_64.toNat [] (.int .i64 e_166)) (ev_idxO (o := (.of seen_143)) rfl rfl E_e_166 rfl) ?_
      refine g_v1 (t := 42) (u := (.ref (.at 5 []) k_64.toNat [] (.int .i64 e_166))) (.int .i64 e_166) rfl rfl rfl ?_
      refine g_v2 (t1 := 39) (t2 := 43) (u1 := (.int .i64 e_165.2)) (u2 := (.int .i64 e_166)) (.bool (e_165.2 == e_166)) rfl rfl rfl rfl ?_
      refine g_end ?_
      refine e_end ?_
      refine renew [(0, (Enc.enc (edges_1 : List (Int × Int)))), (1, (Enc.enc (some_2 : List Int))), (4, (.bool false)), (5, (encO (.at 5 []) (.of (seen_143 : List Int)))), (6, (.int .i64 k_64)), (7, (.int .i64 i_144)), (8, (.int .i64 e_164.1)), (9, (.int .i64 e_165.2)), (44, (.bool (e_165.2 == e_166)))] ⟨h0, h1, h4, h5, h6, h7, h8, h9, rfl⟩ ?_
      rintro s ⟨h0, h1, h4, h5, h6, h7, h8, h9, h44⟩
      refine .nsq ?_
      refine run_cond (t := (e_165.2 == e_166)) h44 h (fun h => ?_) (fun h => ?_)
      · refine .seq ?_
        refine run_reg ?_
        refine e_end ?_
        refine g_v1 (t := 0) (u := (Enc.enc (edges_1 : List (Int × Int)))) (Enc.enc (edges_1 : List (Int × Int))) h0 rfl rfl ?_
        refine g_v1 (t := 7) (u := (.int .i64 i_144)) (.int .i64 i_144) h7 rfl rfl ?_
        obtain ⟨e_181, E_e_181, h⟩ := bind_some h
        refine g_v (.ref .sh 0 [] (.agg [(.int .i64 e_181.1), (.int .i64 e_181.2)])) (ev_idx (t := .sh) (lo := 0) (xs := edges_1) rfl rfl E_e_181 rfl rfl) ?_
        refine g_v1 (t := 47) (u := (.ref .sh 0 [] (.agg [(.int .i64 e_181.1), (.int .i64 e_181.2)]))) (.ref .sh 0 [1] (.int .i64 e_181.2)) rfl rfl rfl ?_
        refine g_v1 (t := 48) (u := (.ref .sh 0 [1] (.int .i64 e_181.2))) (.int .i64 e_181.2) rfl rfl rfl ?_
        refine g_v1 (t := 49) (u := (.int .i64 e_181.2)) (.int .i64 e_181.2) rfl rfl rfl ?_
        refine g_end ?_
        refine e_end ?_
        refine renew [(0, (Enc.enc (edges_1 : List (Int × Int)))), (1, (Enc.enc (some_2 : List Int))), (4, (.bool false)), (5, (encO (.at 5 []) (.of (seen_143 : List Int)))), (6, (.int .i64 k_64)), (7, (.int .i64 i_144)), (8, (.int .i64 e_181.2)), (9, (.int .i64 e_165.2))] ⟨h0, h1, h4, h5, h6, h7, rfl, h9⟩ ?_
        rintro s ⟨h0, h1, h4, h5, h6, h7, h8, h9⟩
        refine .nsq ?_
        refine run_reg ?_
        refine e_end ?_
        refine g_v1 (t := 0) (u := (Enc.enc (edges_1 : List (Int × Int)))) (Enc.enc (edges_1 : List (Int × Int))) h0 rfl rfl ?_
        refine g_v1 (t := 7) (u := (.int .i64 i_144)) (.int .i64 i_144) h7 rfl rfl ?_
        obtain ⟨e_182, E_e_182, h⟩ := bind_some h
        refine g_v (.ref .sh 0 [] (.agg [(.int .i64 e_182.1), (.int .i64 e_182.2)])) (ev_idx (t := .sh) (lo := 0) (xs := edges_1) rfl rfl E_e_182 rfl rfl) ?_
        refine g_v1 (t := 52) (u := (.ref .sh 0 [] (.agg [(.int .i64 e_182.1), (.int .i64 e_182.2)]))) (.ref .sh 0 [0] (.int .i64 e_182.1)) rfl rfl rfl ?_
        refine g_v1 (t := 53) (u := (.ref .sh 0 [0] (.int .i64 e_182.1))) (.int .i64 e_182.1) rfl rfl rfl ?_
        refine g_v1 (t := 54) (u := (.int .i64 e_182.1)) (.int .i64 e_182.1) rfl rfl rfl ?_
        refine g_end ?_
        refine e_end ?_
        refine renew [(0, (Enc.enc (edges_1 : List (Int × Int)))), (1, (Enc.enc (some_2 : List Int))), (4, (.bool false)), (5, (encO (.at 5 []) (.of (seen_143 : List Int)))), (6, (.int .i64 k_64)), (7, (.int .i64 i_144)), (8, (.int .i64 e_181.2)), (9, (.int .i64 e_182.1))] ⟨h0, h1, h4, h5, h6, h7, h8, rfl⟩ ?_
        rintro s ⟨h0, h1, h4, h5, h6, h7, h8, h9⟩
        exact t_f98_j3 H edges_1 some_2 seen_143 k_64 i_144 c1 Hc1 (s_l5Joined_l1 F edges_1 some_2 k_64 c1 k) ih e_181.2 e_182.1 _ ⟨h0, h1, h4, h5, h6, h7, h8, h9⟩ h
      · refine .skip ?_
        exact t_f98_j3 H edges_1 some_2 seen_143 k_64 i_144 c1 Hc1 (s_l5Joined_l1 F edges_1 some_2 k_64 c1 k) ih e_164.1 e_165.2 _ ⟨h0, h1, h4, h5, h6, h7, h8, h9⟩ h
    · refine .exit ?_
      refine .esq ?_
      refine .elp ?_
      refine .ebk ?_
      refine .nbk ?_
      refine .nsq ?_
      refine run_reg ?_
      refine e_end ?_
      refine g_v1 (t := 6) (u := (.int .i64 k_64)) (.int .i64 k_64) h6 rfl rfl ?_
      refine g_v1 (t := 21) (u := (.int .i64 k_64)) (.int .i64 (w64 (k_64 + 1))) rfl rfl rfl ?_
      refine g_v1 (t := 22) (u := (.int .i64 (w64 (k_64 + 1)))) (.int .i64 (w64 (k_64 + 1))) rfl rfl rfl ?_
      refine g_end ?_
      refine e_end ?_
      refine renew [(0, (Enc.enc (edges_1 : List (Int × Int)))), (1, (Enc.enc (some_2 : List Int))), (4, (.bool false)), (5, (encO (.at 5 []) (.of (seen_143 : List Int)))), (6, (.int .i64 (w64 (k_64 + 1))))] ⟨h0, h1, h4, h5, rfl⟩ ?_
      rintro s ⟨h0, h1, h4, h5, h6⟩
      refine .nlp ?_
      exact Hc1 seen_143 (w64 (k_64 + 1)) _ ⟨h0, h1, h4, h5, h6⟩ h
def s_l5Joined_l2 (F : Nat) (edges_1 : (List (Int × Int))) (some_2 : (List Int))  : Nat → (List Int) → Int → Option Bool
  | 0, _, _ => none
  | k + 1, seen_63, k_64 =>
    bif decide (k_64 < (seen_63.length : Int)) then
      s_l5Joined_l1 F edges_1 some_2 k_64 (s_l5Joined_l2 F edges_1 some_2 k) F seen_63 0
    else
      some ((seen_63.length : Int) == (some_2.length : Int))
theorem t_f98_l2 (H : H98 D σ F) (edges_1 : (List (Int × Int))) (some_2 : (List Int))  : ∀ (k : Nat) (seen_63 : (List Int)) (k_64 : Int) (s : Nat → V), Facts [(0, (Enc.enc (edges_1 : List (Int × Int)))), (1, (Enc.enc (some_2 : List Int))), (4, (.bool false)), (5, (encO (.at 5 []) (.of (seen_63 : List Int)))), (6, (.int .i64 k_64))] s → s_l5Joined_l2 F edges_1 some_2 k seen_63 k_64 = some r → Run D σ (R98 r) (.run A98_1 [.lp A98_1, .bk 0, .sq A98_15]) s := by
  intro k
  induction k with
  | zero => intro seen_63 k_64 s _ h; exact nomatch (h : (none : Option _) = some r)
  | succ k ih =>
    intro seen_63 k_64 s hs h
    rw [s_l5Joined_l2] at h
    obtain ⟨h0, h1, h4, h5, h6⟩ := hs
    refine .seq ?_
    refine .seq ?_
    refine run_reg ?_
    refine e_end ?_
    refine g_v1 (t := 6) (u := (.int .i64 k_64)) (.int .i64 k_64) h6 rfl rfl ?_
    refine g_v1 (t := 5) (u := (encO (.at 5 []) (.of (seen_63 : List Int)))) (encO (.at 5 []) (.of (seen_63 : List Int))) h5 rfl rfl ?_
    refine g_v (.int .i64 (seen_63.length : Int)) (ev_lenO (o := .of seen_63) rfl) ?_
    refine g_v2 (t1 := 17) (t2 := 19) (u1 := (.int .i64 k_64)) (u2 := (.int .i64 (seen_63.length : Int))) (.bool (decide (k_64 < (seen_63.length : Int)))) rfl rfl rfl rfl ?_
    refine g_end ?_
    refine e_end ?_
    refine renew [(0, (Enc.enc (edges_1 : List (Int × Int)))), (1, (Enc.enc (some_2 : List Int))), (4, (.bool false)), (5, (encO (.at 5 []) (.of (seen_63 : List Int)))), (6, (.int .i64 k_64)), (20, (.bool (decide (k_64 < (seen_63.length : Int)))))] ⟨h0, h1, h4, h5, h6, rfl⟩ ?_
    rintro s ⟨h0, h1, h4, h5, h6, h20⟩
    refine .nsq ?_
    refine run_cond (t := decide (k_64 < (seen_63.length : Int))) h20 h (fun h => ?_) (fun h => ?_)
    · refine .skip ?_
      refine .nsq ?_
      refine .seq ?_
      refine .block ?_
      refine .seq ?_
      refine run_reg ?_
      refine e_end ?_
      refine g_v0 (.int .i64 0) rfl rfl ?_
      refine g_end ?_
      refine e_end ?_
      refine renew [(0, (Enc.enc (edges_1 : List (Int × Int)))), (1, (Enc.enc (some_2 : List Int))), (4, (.bool false)), (5, (encO (.at 5 []) (.of (seen_63 : List Int)))), (6, (.int .i64 k_64)), (7, (.int .i64 0))] ⟨h0, h1, h4, h5, h6, rfl⟩ ?_
      rintro s ⟨h0, h1, h4, h5, h6, h7⟩
      refine .nsq ?_
      refine .block ?_
      refine .loop ?_
      exact t_f98_l1 H edges_1 some_2 k_64 (s_l5Joined_l2 F edges_1 some_2 k) ih F seen_63 0 _ ⟨h0, h1, h4, h5, h6, h7⟩ h
    · refine .exit ?_
      refine .esq ?_
      refine .elp ?_
      refine .ebk ?_
      refine .nsq ?_
      refine .seq ?_
      refine run_reg ?_
      refine e_end ?_
      refine g_v1 (t := 5) (u := (encO (.at 5 []) (.of (seen_63 : List Int)))) (encO (.at 5 []) (.of (seen_63 : List Int))) h5 rfl rfl ?_
      refine g_v (.int .i64 (seen_63.length : Int)) (ev_lenO (o := .of seen_63) rfl) ?_
      refine g_v1 (t := 1) (u := (Enc.enc (some_2 : List Int))) (Enc.enc (some_2 : List Int)) h1 rfl rfl ?_
      refine g_v (.int .i64 (some_2.length : Int)) (ev_len (xs := some_2) rfl) ?_
      refine g_v2 (t1 := 77) (t2 := 79) (u1 := (.int .i64 (seen_63.length : Int))) (u2 := (.int .i64 (some_2.length : Int))) (.bool ((seen_63.length : Int) == (some_2.length : Int))) rfl rfl rfl rfl ?_
      refine g_v1 (t := 80) (u := (.bool ((seen_63.length : Int) == (some_2.length : Int)))) (.bool ((seen_63.length : Int) == (some_2.length : Int))) rfl rfl rfl ?_
      refine g_end ?_
      refine e_end ?_
      refine renew [(4, (.bool ((seen_63.length : Int) == (some_2.length : Int))))] rfl ?_
      rintro s h4
      refine .nsq ?_
      refine .ret ?_
      have hr := Option.some.inj h
      subst hr
      exact rrA (res_tmp h4) rfl
def s_l5Joined (F : Nat) (edges_1 : (List (Int × Int))) (some_2 : (List Int)) : Option Bool :=
  bif ((some_2.length : Int) == 0) then
    some true
  else
    (idx some_2 0).bind fun e_3 =>
    s_l5Joined_l2 F edges_1 some_2 F [e_3] 0
theorem t98 (H : H98 D σ F) (edges_1 : (List (Int × Int))) (some_2 : (List Int)) (s : Nat → V) (hs : Facts [(0, (Enc.enc (edges_1 : List (Int × Int)))), (1, (Enc.enc (some_2 : List Int)))] s) (h : s_l5Joined F edges_1 some_2 = some r) : Run D σ (R98 r) (.run A98 []) s := by
  unfold s_l5Joined at h
  obtain ⟨h0, h1⟩ := hs
  refine .seq ?_
  refine run_reg ?_
  refine e_end ?_
  refine g_v0 (.bool false) rfl rfl ?_
  refine g_end ?_
  refine e_end ?_
  refine renew [(0, (Enc.enc (edges_1 : List (Int × Int)))), (1, (Enc.enc (some_2 : List Int))), (4, (.bool false))] ⟨h0, h1, rfl⟩ ?_
  rintro s ⟨h0, h1, h4⟩
  refine .nsq ?_
  refine .seq ?_
  refine .seq ?_
  refine run_reg ?_
  refine e_end ?_
  refine g_v1 (t := 1) (u := (Enc.enc (some_2 : List Int))) (Enc.enc (some_2 : List Int)) h1 rfl rfl ?_
  refine g_v (.int .i64 (some_2.length : Int)) (ev_len (xs := some_2) rfl) ?_
  refine g_v1 (t := 11) (u := (.int .i64 (some_2.length : Int))) (.bool ((some_2.length : Int) == 0)) rfl rfl rfl ?_
  refine g_end ?_
  refine e_end ?_
  refine renew [(0, (Enc.enc (edges_1 : List (Int × Int)))), (1, (Enc.enc (some_2 : List Int))), (4, (.bool false)), (12, (.bool ((some_2.length : Int) == 0)))] ⟨h0, h1, h4, rfl⟩ ?_
  rintro s ⟨h0, h1, h4, h12⟩
  refine .nsq ?_
  refine run_cond (t := ((some_2.length : Int) == 0)) h12 h (fun h => ?_) (fun h => ?_)
  · refine .seq ?_
    refine run_reg ?_
    refine e_end ?_
    refine g_v0 (.bool true) rfl rfl ?_
    refine g_end ?_
    refine e_end ?_
    refine renew [(0, (Enc.enc (edges_1 : List (Int × Int)))), (1, (Enc.enc (some_2 : List Int))), (4, (.bool true))] ⟨h0, h1, rfl⟩ ?_
    rintro s ⟨h0, h1, h4⟩
    refine .nsq ?_
    refine .ret ?_
    have hr := Option.some.inj h
    subst hr
    exact rrA (res_tmp h4) rfl
  · refine .skip ?_
    refine .nsq ?_
    refine .seq ?_
    refine run_reg ?_
    refine e_clr ?_
    refine e_end ?_
    refine g_v1 (t := 1) (u := (Enc.enc (some_2 : List Int))) (Enc.enc (some_2 : List Int)) (keep_clear (s := s) (pk := [16]) h1 rfl (Enc.map_enc _ (some_2 : List Int))) rfl rfl ?_
    obtain ⟨e_3, E_e_3, h⟩ := bind_some h
    refine g_v (.ref .sh 0 [] (.int .i64 e_3)) (ev_idx (t := .sh) (lo := 0) (xs := some_2) rfl rfl E_e_3 rfl rfl) ?_
    refine g_v1 (t := 14) (u := (.ref .sh 0 [] (.int .i64 e_3))) (.int .i64 e_3) rfl rfl rfl ?_
    refine g_litL [(15, (.int .i64 e_3))] [Enc.enc (e_3 : Int)] rfl rfl rfl (gone_clear (s := s) (pk := [16]) (t := 16) rfl) ?_
    refine g_v1 (t := 16) (u := (encO (.at 16 []) (.of ([e_3] : List Int)))) (encO (.at 16 []) (.of ([e_3] : List Int))) rfl rfl rfl ?_
    refine g_end ?_
    refine e_home (r := 16) (x := 5) (v := (encO (.at 16 []) (.of ([e_3] : List Int)))) (by exact rfl) rfl (fun s_2 hg_2 => ?_)
    refine e_end ?_
    refine renew [(0, (Enc.enc (edges_1 : List (Int × Int)))), (1, (Enc.enc (some_2 : List Int))), (4, (.bool false)), (5, (encO (.at 5 []) (.of ([e_3] : List Int))))] ⟨(hg_2 0 (Enc.enc (edges_1 : List (Int × Int))) (Enc.enc (edges_1 : List (Int × Int))) (keep_clear (s := s) (pk := [16]) h0 rfl (Enc.map_enc _ (edges_1 : List (Int × Int)))) (Enc.map_enc _ (edges_1 : List (Int × Int)))), (hg_2 1 (Enc.enc (some_2 : List Int)) (Enc.enc (some_2 : List Int)) (keep_clear (s := s) (pk := [16]) h1 rfl (Enc.map_enc _ (some_2 : List Int))) (Enc.map_enc _ (some_2 : List Int))), (hg_2 4 (.bool false) (.bool false) (keep_clear (s := s) (pk := [16]) h4 rfl rfl) rfl), (hg_2 5 (encO (.at 16 []) (.of ([e_3] : List Int))) (encO (.at 5 []) (.of ([e_3] : List Int))) rfl (map_encO (r := 16) (p := []) rfl rfl))⟩ ?_
    rintro s ⟨h0, h1, h4, h5⟩
    refine .nsq ?_
    refine .seq ?_
    refine .seq ?_
    refine run_reg ?_
    refine e_end ?_
    refine g_v0 (.int .i64 0) rfl rfl ?_
    refine g_end ?_
    refine e_end ?_
    refine renew [(0, (Enc.enc (edges_1 : List (Int × Int)))), (1, (Enc.enc (some_2 : List Int))), (4, (.bool false)), (5, (encO (.at 5 []) (.of ([e_3] : List Int)))), (6, (.int .i64 0))] ⟨h0, h1, h4, h5, rfl⟩ ?_
    rintro s ⟨h0, h1, h4, h5, h6⟩
    refine .nsq ?_
    refine .block ?_
    refine .loop ?_
    exact t_f98_l2 H edges_1 some_2 F [e_3] 0 _ ⟨h0, h1, h4, h5, h6⟩ h
end
def e98 (F : Nat) : Ent := ⟨98, da (fun (x : ((List (Int × Int)) × (List Int) × Unit)) => s_l5Joined F x.1 x.2.1) (fun (r : Bool) => (Enc.enc (r : Bool))), 0, false, selF []⟩
theorem p98 {F : Nat} {x0 : (List (Int × Int))} {x1 : (List Int)} {r : Bool} (h : s_l5Joined F x0 x1 = some r) : (e98 F).den [Enc.enc x0, Enc.enc x1] = some (Enc.enc (r : Bool)) := da_put (f := fun (x : ((List (Int × Int)) × (List Int) × Unit)) => s_l5Joined F x.1 x.2.1) (t := fun (r : Bool) => (Enc.enc (r : Bool))) (x0, x1, ()) h
theorem o98 {D : Den} {σ : Sig} {F : Nat} (hF : Fits2 Try.prog D σ) (H : H98 D σ F) : (e98 F).Ok Try.prog := by
  refine ⟨fun args r h => ?_, ⟨Try.f98, Try.func98, rfl, rfl⟩⟩
  obtain ⟨⟨x0, x1, _⟩, y, rfl, hy, rfl⟩ := da_open h
  exact contract_run hF (by kernel_rfl) Try.func98 rfl c98 (show 2 ≤ Try.f98.ntmps by decide) (t98 H x0 x1 _ ⟨rfl, rfl⟩ hy)
/- loop.example/g01109/spec.l5Shape -/
def A96_2 : AC := (AC.cond (O.t 40) AC.skip (AC.exit 2))
def A96_5 : AC := (AC.cond (O.t 78) (AC.seq (AC.reg [] [(I.mk (some 4) none false (X.v (A.mov (O.k (V.bool false)))))] []) AC.ret) AC.skip)
def A96_4 : AC := (AC.seq (AC.reg [] [(I.mk (some 48) none false (X.v (A.idxA (O.t 8) (O.k (V.int IntKind.i64 (Int.ofNat 0))) 2 1))), (I.mk (some 49) none false (X.v (A.load Sh.s (O.t 48)))), (I.mk (some 50) none false (X.v (A.bin BinOp.lss (O.t 49) (O.k (V.int IntKind.i64 (Int.ofNat 0)))))), (I.mk (some 51) none false (X.v (A.mov (O.t 50)))), (I.mk (some 52) (some (51, false)) false (X.v (A.idxA (O.t 8) (O.k (V.int IntKind.i64 (Int.ofNat 0))) 2 1))), (I.mk (some 53) (some (51, false)) false (X.v (A.load Sh.s (O.t 52)))), (I.mk (some 54) (some (51, false)) false (X.v (A.idxA (O.t 8) (O.k (V.int IntKind.i64 (Int.ofNat 1))) 2 1))), (I.mk (some 55) (some (51, false)) false (X.v (A.load Sh.s (O.t 54)))), (I.mk (some 56) (some (51, false)) false (X.v (A.bin BinOp.geq (O.t 53) (O.t 55)))), (I.mk (some 57) none false (X.v (A.pick (O.t 51) (O.k (V.bool true)) (O.t 56)))), (I.mk (some 58) none false (X.v (A.mov (O.t 57)))), (I.mk (some 59) (some (58, false)) false (X.v (A.idxA (O.t 8) (O.k (V.int IntKind.i64 (Int.ofNat 1))) 2 1))), (I.mk (some 60) (some (58, false)) false (X.v (A.load Sh.s (O.t 59)))), (I.mk (some 61) (some (58, false)) false (X.v (A.mov (O.t 5)))), (I.mk (some 62) (some (58, false)) false (X.v (A.bin BinOp.geq (O.t 60) (O.t 61)))), (I.mk (some 63) none false (X.v (A.pick (O.t 58) (O.k (V.bool true)) (O.t 62)))), (I.mk (some 64) none false (X.v (A.mov (O.t 63)))), (I.mk (some 65) (some (64, false)) false (X.v (A.mov (O.t 7)))), (I.mk (some 66) (some (64, false)) false (X.v (A.bin BinOp.gtr (O.t 65) (O.k (V.int IntKind.i64 (Int.ofNat 0)))))), (I.mk (some 67) (some (64, false)) false (X.v (A.mov (O.t 66)))), (I.mk (some 68) (some (67, true)) false (X.v (A.fld (O.t 3) 1 1))), (I.mk (some 69) (some (67, true)) false (X.v (A.load Sh.p (O.t 68)))), (I.mk (some 70) (some (67, true)) false (X.v (A.mov (O.t 7)))), (I.mk (some 71) (some (67, true)) false (X.v (A.bin BinOp.sub (O.t 70) (O.k (V.int IntKind.i64 (Int.ofNat 1)))))), (I.mk (some 72) (some (67, true)) false (X.v (A.idx (O.t 69) (O.t 71) 2))), (I.mk (some 73) (some (67, true)) false (X.v (A.load (Sh.ag [Sh.s, Sh.s]) (O.t 72)))), (I.mk (some 74) (some (67, true)) false (X.v (A.load (Sh.ag [Sh.s, Sh.s]) (O.t 8)))), (I.mk (some 75) (some (67, true)) false (X.call (O.k (V.fn 69 [] [])) [(O.t 73), (O.t 74)])), (I.mk (some 76) (some (67, true)) false (X.v (A.un UnOp.not (O.t 75)))), (I.mk (some 77) (some (64, false)) false (X.v (A.pick (O.t 67) (O.t 76) (O.k (V.bool false))))), (I.mk (some 78) none false (X.v (A.pick (O.t 64) (O.k (V.bool true)) (O.t 77))))] []) A96_5)
def A96_6 : AC := (AC.reg [] [(I.mk (some 41) none false (X.v (A.mov (O.t 7)))), (I.mk (some 42) none false (X.v (A.bin BinOp.add (O.t 41) (O.k (V.int IntKind.i64 (Int.ofNat 1)))))), (I.mk (some 7) none false (X.v (A.mov (O.t 42))))] [])
def A96_3 : AC := (AC.seq (AC.block 3 (AC.seq (AC.reg [.clr [8]] [(I.mk (some 43) none false (X.v (A.fld (O.t 3) 1 1))), (I.mk (some 44) none false (X.v (A.load Sh.p (O.t 43)))), (I.mk (some 45) none false (X.v (A.mov (O.t 7)))), (I.mk (some 46) none false (X.v (A.idx (O.t 44) (O.t 45) 2))), (I.mk (some 47) none false (X.v (A.load (Sh.ag [Sh.s, Sh.s]) (O.t 46)))), (I.mk (some 8) none false (X.alloc (V.agg [(V.int IntKind.i64 (Int.ofNat 0)), (V.int IntKind.i64 (Int.ofNat 0))]))), (I.mk none none false (X.store (Sh.ag [Sh.s, Sh.s]) (O.t 8) (O.t 47)))] []) A96_4)) A96_6)
def A96_1 : AC := (AC.seq (AC.seq (AC.reg [] [(I.mk (some 36) none false (X.v (A.mov (O.t 7)))), (I.mk (some 37) none false (X.v (A.fld (O.t 3) 1 1))), (I.mk (some 38) none false (X.v (A.load Sh.p (O.t 37)))), (I.mk (some 39) none false (X.v (A.len (O.t 38)))), (I.mk (some 40) none false (X.v (A.bin BinOp.lss (O.t 36) (O.t 39))))] []) A96_2) A96_3)
def A96_7 : AC := (AC.seq (AC.reg [] [(I.mk (some 79) none false (X.v (A.fld (O.t 3) 1 1))), (I.mk (some 80) none false (X.v (A.load Sh.p (O.t 79)))), (I.mk (some 81) none false (X.v (A.mov (O.t 5)))), (I.mk (some 82) none false (X.call (O.k (V.fn 124 [] [])) [(O.t 81)])), (I.mk (some 83) none false (X.call (O.k (V.fn 98 [] [])) [(O.t 80), (O.t 82)])), (I.mk (some 4) none false (X.v (A.mov (O.t 83))))] []) AC.ret)
def A96_9 : AC := (AC.cond (O.t 25) AC.skip (AC.exit 0))
def A96_11 : AC := (AC.cond (O.t 35) (AC.seq (AC.reg [] [(I.mk (some 4) none false (X.v (A.mov (O.k (V.bool false)))))] []) AC.ret) AC.skip)
def A96_12 : AC := (AC.reg [] [(I.mk (some 26) none false (X.v (A.mov (O.t 6)))), (I.mk (some 27) none false (X.v (A.bin BinOp.add (O.t 26) (O.k (V.int IntKind.i64 (Int.ofNat 1)))))), (I.mk (some 6) none false (X.v (A.mov (O.t 27))))] [])
def A96_10 : AC := (AC.seq (AC.block 1 (AC.seq (AC.reg [] [(I.mk (some 28) none false (X.v (A.load (Sh.ag [Sh.s, Sh.p]) (O.t 2)))), (I.mk (some 29) none false (X.v (A.fld (O.t 3) 0 0))), (I.mk (some 30) none false (X.v (A.load Sh.p (O.t 29)))), (I.mk (some 31) none false (X.v (A.mov (O.t 6)))), (I.mk (some 32) none false (X.v (A.idx (O.t 30) (O.t 31) 1))), (I.mk (some 33) none false (X.v (A.load Sh.p (O.t 32)))), (I.mk (some 34) none false (X.call (O.k (V.fn 89 [] [])) [(O.t 28), (O.t 33)])), (I.mk (some 35) none false (X.v (A.un UnOp.not (O.t 34))))] []) A96_11)) A96_12)
def A96_8 : AC := (AC.seq (AC.seq (AC.reg [] [(I.mk (some 23) none false (X.v (A.mov (O.t 6)))), (I.mk (some 24) none false (X.v (A.mov (O.t 5)))), (I.mk (some 25) none false (X.v (A.bin BinOp.lss (O.t 23) (O.t 24))))] []) A96_9) A96_10)
def A96_14 : AC := (AC.block 2 (AC.loop A96_1))
def A96_13 : AC := (AC.seq (AC.seq (AC.reg [] [(I.mk (some 7) none false (X.v (A.mov (O.k (V.int IntKind.i64 (Int.ofNat 0))))))] []) A96_14) A96_7)
def A96_15 : AC := (AC.cond (O.t 22) (AC.seq (AC.reg [] [(I.mk (some 4) none false (X.v (A.mov (O.k (V.bool false)))))] []) AC.ret) AC.skip)
def A96_17 : AC := (AC.block 0 (AC.loop A96_8))
def A96_16 : AC := (AC.seq (AC.seq (AC.reg [] [(I.mk (some 6) none false (X.v (A.mov (O.k (V.int IntKind.i64 (Int.ofNat 0))))))] []) A96_17) A96_13)
def A96_19 : AC := (AC.seq (AC.seq (AC.reg [] [(I.mk (some 12) none false (X.v (A.mov (O.t 5)))), (I.mk (some 13) none false (X.call (O.k (V.fn 65 [] [])) [(O.t 12), (O.k (V.int IntKind.i64 (Int.ofNat 1))), (O.k (V.int IntKind.i64 (Int.ofNat 8)))])), (I.mk (some 14) none false (X.v (A.un UnOp.not (O.t 13)))), (I.mk (some 15) none false (X.v (A.mov (O.t 14)))), (I.mk (some 16) (some (15, false)) false (X.v (A.fld (O.t 3) 1 1))), (I.mk (some 17) (some (15, false)) false (X.v (A.load Sh.p (O.t 16)))), (I.mk (some 18) (some (15, false)) false (X.v (A.len (O.t 17)))), (I.mk (some 19) (some (15, false)) false (X.v (A.mov (O.t 5)))), (I.mk (some 20) (some (15, false)) false (X.v (A.bin BinOp.sub (O.t 19) (O.k (V.int IntKind.i64 (Int.ofNat 1)))))), (I.mk (some 21) (some (15, false)) false (X.v (A.bin BinOp.neq (O.t 18) (O.t 20)))), (I.mk (some 22) none false (X.v (A.pick (O.t 15) (O.k (V.bool true)) (O.t 21))))] []) A96_15) A96_16)
def A96_18 : AC := (AC.seq (AC.reg [] [(I.mk (some 9) none false (X.v (A.fld (O.t 3) 0 0))), (I.mk (some 10) none false (X.v (A.load Sh.p (O.t 9)))), (I.mk (some 11) none false (X.v (A.len (O.t 10)))), (I.mk (some 5) none false (X.v (A.mov (O.t 11))))] []) A96_19)
def A96 : AC := (AC.seq (AC.reg [.clr [2, 3]] [(I.mk (some 2) none false (X.box (O.t 0))), (I.mk (some 3) none false (X.box (O.t 1))), (I.mk (some 4) none false (X.v (A.mov (O.k (V.bool false)))))] []) A96_18)
def an96 : List An := [{ id := 0, pre := [.clr [2, 3]], ep := [], lin := [], sp := [] }, { id := 12, pre := [.clr [8]], ep := [], lin := [], sp := [] }]
theorem c96 : cC Try.prog Try.f96.ntmps an96 (Try.f96.body.getD .skip) = some A96 := by kernel_rfl
structure H96 (D : Den) (σ : Sig) (F : Nat) : Prop where
  c65 : ∀ (x0 : Int) (x1 : Int) (x2 : Int) r, s_l1In F x0 x1 x2 = some r → D 65 [Enc.enc x0, Enc.enc x1, Enc.enc x2] = some (Enc.enc (r : Bool))
  g65 : σ 65 = some (0, false)
  c89 : ∀ (x0 : (Int × (List (Int × Int)))) (x1 : (List Int)) r, s_l2Set F x0 x1 = some r → D 89 [Enc.enc x0, Enc.enc x1] = some (Enc.enc (r : Bool))
  g89 : σ 89 = some (0, false)
  c69 : ∀ (x0 : (Int × Int)) (x1 : (Int × Int)) r, s_l2Before F x0 x1 = some r → D 69 [Enc.enc x0, Enc.enc x1] = some (Enc.enc (r : Bool))
  g69 : σ 69 = some (0, false)
  c124 : ∀ (x0 : Int) r, s_l5Numbers F x0 = some r → D 124 [Enc.enc x0] = some (Enc.enc (r : (List Int)))
  g124 : σ 124 = some (0, false)
  c98 : ∀ (x0 : (List (Int × Int))) (x1 : (List Int)) r, s_l5Joined F x0 x1 = some r → D 98 [Enc.enc x0, Enc.enc x1] = some (Enc.enc (r : Bool))
  g98 : σ 98 = some (0, false)
abbrev R96 (r : Bool) : (Nat → V) → Prop := RR Try.prog [.tmp 4] 0 false (Enc.enc (r : Bool))
section
variable {D : Den} {σ : Sig} {F : Nat} {r : Bool}
def s_l5Shape_j1 (F : Nat) (d_2 : ((List (List Int)) × (List (Int × Int)))) (i_18 : Int) (c2 : Int → Option Bool) (t78_28 : Bool) : Option Bool :=
  bif t78_28 then
    some false
  else
    c2 (w64 (i_18 + 1))
theorem t_f96_j1 (H : H96 D σ F) (d_2 : ((List (List Int)) × (List (Int × Int)))) (i_18 : Int) (c2 : Int → Option Bool) (Hc2 : ∀ (i_18 : Int) (s : Nat → V), Facts [(3, (.ref (.bx 3) 0 [] (.agg [(Enc.enc (d_2.1 : List (List Int))), (Enc.enc (d_2.2 : List (Int × Int)))]))), (4, (.bool false)), (5, (.int .i64 (d_2.1.length : Int))), (7, (.int .i64 i_18))] s → c2 i_18 = some r → Run D σ (R96 r) (.run A96_1 [.lp A96_1, .bk 2, .sq A96_7]) s) (t78_28 : Bool) (s : Nat → V) (hs : Facts [(3, (.ref (.bx 3) 0 [] (.agg [(Enc.enc (d_2.1 : List (List Int))), (Enc.enc (d_2.2 : List (Int × Int)))]))), (4, (.bool false)), (5, (.int .i64 (d_2.1.length : Int))), (7, (.int .i64 i_18)), (78, (.bool t78_28))] s) (h : s_l5Shape_j1 F d_2 i_18 c2 t78_28 = some r) : Run D σ (R96 r) (.nrm [.sq A96_5, .bk 3, .sq A96_6, .lp A96_1, .bk 2, .sq A96_7]) s := by
  unfold s_l5Shape_j1 at h
  obtain ⟨h3, h4, h5, h7, h78⟩ := hs
  refine .nsq ?_
  refine run_cond (t := t78_28) h78 h (fun h => ?_) (fun h => ?_)
  · refine .seq ?_
    refine run_reg ?_
    refine e_end ?_
    refine g_v0 (.bool false) rfl rfl ?_
    refine g_end ?_
    refine e_end ?_
    refine renew [(3, (.ref (.bx 3) 0 [] (.agg [(Enc.enc (d_2.1 : List (List Int))), (Enc.enc (d_2.2 : List (Int × Int)))]))), (4, (.bool false)), (5, (.int .i64 (d_2.1.length : Int))), (7, (.int .i64 i_18))] ⟨h3, rfl, h5, h7⟩ ?_
    rintro s ⟨h3, h4, h5, h7⟩
    refine .nsq ?_
    refine .ret ?_
    have hr := Option.some.inj h
    subst hr
    exact rrA (res_tmp h4) rfl
  · refine .skip ?_
    refine .nbk ?_
    refine .nsq ?_
    refine run_reg ?_
    refine e_end ?_
    refine g_v1 (t := 7) (u := (.int .i64 i_18)) (.int .i64 i_18) h7 rfl rfl ?_
    refine g_v1 (t := 41) (u := (.int .i64 i_18)) (.int .i64 (w64 (i_18 + 1))) rfl rfl rfl ?_
    refine g_v1 (t := 42) (u := (.int .i64 (w64 (i_18 + 1)))) (.int .i64 (w64 (i_18 + 1))) rfl rfl rfl ?_
    refine g_end ?_
    refine e_end ?_
    refine renew [(3, (.ref (.bx 3) 0 [] (.agg [(Enc.enc (d_2.1 : List (List Int))), (Enc.enc (d_2.2 : List (Int × Int)))]))), (4, (.bool false)), (5, (.int .i64 (d_2.1.length : Int))), (7, (.int .i64 (w64 (i_18 + 1))))] ⟨h3, h4, h5, rfl⟩ ?_
    rintro s ⟨h3, h4, h5, h7⟩
    refine .nlp ?_
    exact Hc2 (w64 (i_18 + 1)) _ ⟨h3, h4, h5, h7⟩ h
def s_l5Shape_l1 (F : Nat) (d_2 : ((List (List Int)) × (List (Int × Int))))  : Nat → Int → Option Bool
  | 0, _ => none
  | k + 1, i_18 =>
    bif decide (i_18 < (d_2.2.length : Int)) then
      (idx d_2.2 i_18).bind fun e_25 =>
      bif decide (e_25.1 < 0) then
        s_l5Shape_j1 F d_2 i_18 (s_l5Shape_l1 F d_2 k) true
      else
        bif decide (e_25.1 ≥ e_25.2) then
          s_l5Shape_j1 F d_2 i_18 (s_l5Shape_l1 F d_2 k) true
        else
          bif decide (e_25.2 ≥ (d_2.1.length : Int)) then
            s_l5Shape_j1 F d_2 i_18 (s_l5Shape_l1 F d_2 k) true
          else
            bif decide (i_18 > 0) then
              (idx d_2.2 (w64 (i_18 - 1))).bind fun e_29 =>
              (s_l2Before F e_29 e_25).bind fun r_30 =>
              s_l5Shape_j1 F d_2 i_18 (s_l5Shape_l1 F d_2 k) (!r_30)
            else
              s_l5Shape_j1 F d_2 i_18 (s_l5Shape_l1 F d_2 k) false
    else
      (s_l5Numbers F (d_2.1.length : Int)).bind fun r_31 =>
      (s_l5Joined F d_2.2 r_31).bind fun r_32 =>
      some r_32
theorem t_f96_l1 (H : H96 D σ F) (d_2 : ((List (List Int)) × (List (Int × Int))))  : ∀ (k : Nat) (i_18 : Int) (s : Nat → V), Facts [(3, (.ref (.bx 3) 0 [] (.agg [(Enc.enc (d_2.1 : List (List Int))), (Enc.enc (d_2.2 : List (Int × Int)))]))), (4, (.bool false)), (5, (.int .i64 (d_2.1.length : Int))), (7, (.int .i64 i_18))] s → s_l5Shape_l1 F d_2 k i_18 = some r → Run D σ (R96 r) (.run A96_1 [.lp A96_1, .bk 2, .sq A96_7]) s := by
  intro k
  induction k with
  | zero => intro i_18 s _ h; exact nomatch (h : (none : Option _) = some r)
  | succ k ih =>
    intro i_18 s hs h
    rw [s_l5Shape_l1] at h
    obtain ⟨h3, h4, h5, h7⟩ := hs
    refine .seq ?_
    refine .seq ?_
    refine run_reg ?_
    refine e_end ?_
    refine g_v1 (t := 7) (u := (.int .i64 i_18)) (.int .i64 i_18) h7 rfl rfl ?_
    refine g_v1 (t := 3) (u := (.ref (.bx 3) 0 [] (.agg [(Enc.enc (d_2.1 : List (List Int))), (Enc.enc (d_2.2 : List (Int × Int)))]))) (.ref (.bx 3) 0 [1] (Enc.enc (d_2.2 : List (Int × Int)))) h3 rfl rfl ?_
    refine g_v1 (t := 37) (u := (.ref (.bx 3) 0 [1] (Enc.enc (d_2.2 : List (Int × Int))))) (Enc.enc (d_2.2 : List (Int × Int))) rfl rfl rfl ?_
    refine g_v (.int .i64 (d_2.2.length : Int)) (ev_len (xs := d_2.2) rfl) ?_
    refine g_v2 (t1 := 36) (t2 := 39) (u1 := (.int .i64 i_18)) (u2 := (.int .i64 (d_2.2.length : Int))) (.bool (decide (i_18 < (d_2.2.length : Int)))) rfl rfl rfl rfl ?_
    refine g_end ?_
    refine e_end ?_
    refine renew [(3, (.ref (.bx 3) 0 [] (.agg [(Enc.enc (d_2.1 : List (List Int))), (Enc.enc (d_2.2 : List (Int × Int)))]))), (4, (.bool false)), (5, (.int .i64 (d_2.1.length : Int))), (7, (.int .i64 i_18)), (40, (.bool (decide (i_18 < (d_2.2.length : Int)))))] ⟨h3, h4, h5, h7, rfl⟩ ?_
    rintro s ⟨h3, h4, h5, h7, h40⟩
    refine .nsq ?_
    refine run_cond (t := decide (i_18 < (d_2.2.length : Int))) h40 h (fun h => ?_) (fun h => ?_)
    · refine .skip ?_
      refine .nsq ?_
      refine .seq ?_
      refine .block ?_
      refine .seq ?_
      refine run_reg ?_
      refine e_clr ?_
      refine e_end ?_
      refine g_v1 (t := 3) (u := (.ref (.bx 3) 0 [] (.agg [(Enc.enc (d_2.1 : List (List Int))), (Enc.enc (d_2.2 : List (Int × Int)))]))) (.ref (.bx 3) 0 [1] (Enc.enc (d_2.2 : List (Int × Int)))) (keep_clear (s := s) (pk := [8]) h3 rfl (map_bx rfl (map_agg (maps_cons (Enc.map_enc _ (d_2.1 : List (List Int))) (maps_cons (Enc.map_enc _ (d_2.2 : List (Int × Int))) maps_nil))))) rfl rfl ?_
      refine g_v1 (t := 43) (u := (.ref (.bx 3) 0 [1] (Enc.enc (d_2.2 : List (Int × Int))))) (Enc.enc (d_2.2 : List (Int × Int))) rfl rfl rfl ?_
      refine g_v1 (t := 7) (u := (.int .i64 i_18)) (.int .i64 i_18) (keep_clear (s := s) (pk := [8]) h7 rfl rfl) rfl rfl ?_
      obtain ⟨e_25, E_e_25, h⟩ := bind_some h
      refine g_v (.ref .sh 0 [] (.agg [(.int .i64 e_25.1), (.int .i64 e_25.2)])) (ev_idx (t := .sh) (lo := 0) (xs := d_2.2) rfl rfl E_e_25 rfl rfl) ?_
      refine g_v1 (t := 46) (u := (.ref .sh 0 [] (.agg [(.int .i64 e_25.1), (.int .i64 e_25.2)]))) (.agg [(.int .i64 e_25.1), (.int .i64 e_25.2)]) rfl rfl rfl ?_
      refine g_alloc (gone_clear (s := s) (pk := [8]) (t := 8) rfl) ?_
      refine g_store (.agg [(.int .i64 e_25.1), (.int .i64 e_25.2)]) (rd_of rfl rfl) (rd_of rfl rfl) (by refine ⟨by decide, by decide, rfl, rfl, rfl, ?_⟩; first | rfl | simp [V.toks, V.tokss, Enc.toks_enc]) ?_
      refine g_end ?_
      refine e_end ?_
      refine renew [(3, (.ref (.bx 3) 0 [] (.agg [(Enc.enc (d_2.1 : List (List Int))), (Enc.enc (d_2.2 : List (Int × Int)))]))), (4, (.bool false)), (5, (.int .i64 (d_2.1.length : Int))), (7, (.int .i64 i_18)), (8, (.ref (.bx 8) 0 [] (.agg [(.int .i64 e_25.1), (.int .i64 e_25.2)])))] ⟨(keep_mut (keep_clear (s := s) (pk := [8]) h3 rfl (map_bx rfl (map_agg (maps_cons (Enc.map_enc _ (d_2.1 : List (List Int))) (maps_cons (Enc.map_enc _ (d_2.2 : List (Int × Int))) maps_nil))))) (mut_ref_ne rfl rfl (mut_agg (muts_cons (Enc.mut_enc _ _ _ _ (d_2.1 : List (List Int))) (muts_cons (Enc.mut_enc _ _ _ _ (d_2.2 : List (Int × Int))) rfl))))), (keep_mut (keep_clear (s := s) (pk := [8]) h4 rfl rfl) rfl), (keep_mut (keep_clear (s := s) (pk := [8]) h5 rfl rfl) rfl), (keep_mut (keep_clear (s := s) (pk := [8]) h7 rfl rfl) rfl), (keep_mut rfl rfl)⟩ ?_
      rintro s ⟨h3, h4, h5, h7, h8⟩
      refine .nsq ?_
      refine .seq ?_
      refine run_reg ?_
      refine e_end ?_
      refine g_v1 (t := 8) (u := (.ref (.bx 8) 0 [] (.agg [(.int .i64 e_25.1), (.int .i64 e_25.2)]))) (.ref (.bx 8) 0 [0] (.int .i64 e_25.1)) h8 rfl rfl ?_
      refine g_v1 (t := 48) (u := (.ref (.bx 8) 0 [0] (.int .i64 e_25.1))) (.int .i64 e_25.1) rfl rfl rfl ?_
      refine g_v1 (t := 49) (u := (.int .i64 e_25.1)) (.bool (decide (e_25.1 < 0))) rfl rfl rfl ?_
      refine g_v1 (t := 50) (u := (.bool (decide (e_25.1 < 0)))) (.bool (decide (e_25.1 < 0))) rfl rfl rfl ?_
      refine split_on (c := decide (e_25.1 < 0)) h (fun hg4 h => ?_) (fun hg4 h => ?_)
      · refine g_no (Eq.trans (b := .bool (decide (e_25.1 < 0))) rfl (congrArg V.bool hg4)) ?_
        refine g_no (Eq.trans (b := .bool (decide (e_25.1 < 0))) rfl (congrArg V.bool hg4)) ?_
        refine g_no (Eq.trans (b := .bool (decide (e_25.1 < 0))) rfl (congrArg V.bool hg4)) ?_
        refine g_no (Eq.trans (b := .bool (decide (e_25.1 < 0))) rfl (congrArg V.bool hg4)) ?_
        refine g_no (Eq.trans (b := .bool (decide (e_25.1 < 0))) rfl (congrArg V.bool hg4)) ?_
        refine g_v2 (t1 := 51) (t2 := 56) (u1 := (.bool true)) (u2 := (.tup [])) (.bool true) (Eq.trans (b := .bool (decide (e_25.1 < 0))) rfl (congrArg V.bool hg4)) rfl rfl rfl ?_
        refine g_v1 (t := 57) (u := (.bool true)) (.bool true) rfl rfl rfl ?_
        refine g_no rfl ?_
        refine g_no rfl ?_
        refine g_no rfl ?_
        refine g_no rfl ?_
        refine g_v2 (t1 := 58) (t2 := 62) (u1 := (.bool true)) (u2 := (.tup [])) (.bool true) rfl rfl rfl rfl ?_
        refine g_v1 (t := 63) (u := (.bool true)) (.bool true) rfl rfl rfl ?_
        refine g_no rfl ?_
        refine g_no rfl ?_
        refine g_no rfl ?_
        refine g_skip rfl ?_
        refine g_skip rfl ?_
        refine g_skip rfl ?_
        refine g_skip rfl ?_
        refine g_skip rfl ?_
        refine g_skip rfl ?_
        refine g_skip rfl ?_
        refine g_skip rfl ?_
        refine g_skip rfl ?_
        refine g_no rfl ?_
        refine g_v2 (t1 := 64) (t2 := 77) (u1 := (.bool true)) (u2 := (.tup [])) (.bool true) rfl rfl rfl rfl ?_
        refine g_end ?_
        refine e_end ?_
        refine renew [(3, (.ref (.bx 3) 0 [] (.agg [(Enc.enc (d_2.1 : List (List Int))), (Enc.enc (d_2.2 : List (Int × Int)))]))), (4, (.bool false)), (5, (.int .i64 (d_2.1.length : Int))), (7, (.int .i64 i_18)), (78, (.bool true))] ⟨h3, h4, h5, h7, rfl⟩ ?_
        rintro s ⟨h3, h4, h5, h7, h78⟩
        exact t_f96_j1 H d_2 i_18 (s_l5Shape_l1 F d_2 k) ih true _ ⟨h3, h4, h5, h7, h78⟩ h
      · refine g_yes (Eq.trans (b := .bool (decide (e_25.1 < 0))) rfl (congrArg V.bool hg4)) (g_v1 (t := 8) (u := (.ref (.bx 8) 0 [] (.agg [(.int .i64 e_25.1), (.int .i64 e_25.2)]))) (.ref (.bx 8) 0 [0] (.int .i64 e_25.1)) h8 rfl rfl ?_)
        refine g_yes (Eq.trans (b := .bool (decide (e_25.1 < 0))) rfl (congrArg V.bool hg4)) (g_v1 (t := 52) (u := (.ref (.bx 8) 0 [0] (.int .i64 e_25.1))) (.int .i64 e_25.1) rfl rfl rfl ?_)
        refine g_yes (Eq.trans (b := .bool (decide (e_25.1 < 0))) rfl (congrArg V.bool hg4)) (g_v1 (t := 8) (u := (.ref (.bx 8) 0 [] (.agg [(.int .i64 e_25.1), (.int .i64 e_25.2)]))) (.ref (.bx 8) 0 [1] (.int .i64 e_25.2)) h8 rfl rfl ?_)
        refine g_yes (Eq.trans (b := .bool (decide (e_25.1 < 0))) rfl (congrArg V.bool hg4)) (g_v1 (t := 54) (u := (.ref (.bx 8) 0 [1] (.int .i64 e_25.2))) (.int .i64 e_25.2) rfl rfl rfl ?_)
        refine g_yes (Eq.trans (b := .bool (decide (e_25.1 < 0))) rfl (congrArg V.bool hg4)) (g_v2 (t1 := 53) (t2 := 55) (u1 := (.int .i64 e_25.1)) (u2 := (.int .i64 e_25.2)) (.bool (decide (e_25.1 ≥ e_25.2))) rfl rfl rfl rfl ?_)
        refine g_v2 (t1 := 51) (t2 := 56) (u1 := (.bool false)) (u2 := (.bool (decide (e_25.1 ≥ e_25.2)))) (.bool (decide (e_25.1 ≥ e_25.2))) (Eq.trans (b := .bool (decide (e_25.1 < 0))) rfl (congrArg V.bool hg4)) rfl rfl rfl ?_
        refine g_v1 (t := 57) (u := (.bool (decide (e_25.1 ≥ e_25.2)))) (.bool (decide (e_25.1 ≥ e_25.2))) rfl rfl rfl ?_
        refine split_on (c := decide (e_25.1 ≥ e_25.2)) h (fun hg11 h => ?_) (fun hg11 h => ?_)
        · refine g_no (Eq.trans (b := .bool (decide (e_25.1 ≥ e_25.2))) rfl (congrArg V.bool hg11)) ?_
          refine g_no (Eq.trans (b := .bool (decide (e_25.1 ≥ e_25.2))) rfl (congrArg V.bool hg11)) ?_
          refine g_no (Eq.trans (b := .bool (decide (e_25.1 ≥ e_25.2))) rfl (congrArg V.bool hg11)) ?_
          refine g_no (Eq.trans (b := .bool (decide (e_25.1 ≥ e_25.2))) rfl (congrArg V.bool hg11)) ?_
          refine g_v2 (t1 := 58) (t2 := 62) (u1 := (.bool true)) (u2 := (.tup [])) (.bool true) (Eq.trans (b := .bool (decide (e_25.1 ≥ e_25.2))) rfl (congrArg V.bool hg11)) rfl rfl rfl ?_
          refine g_v1 (t := 63) (u := (.bool true)) (.bool true) rfl rfl rfl ?_
          refine g_no rfl ?_
          refine g_no rfl ?_
          refine g_no rfl ?_
          refine g_skip rfl ?_
          refine g_skip rfl ?_
          refine g_skip rfl ?_
          refine g_skip rfl ?_
          refine g_skip rfl ?_
          refine g_skip rfl ?_
          refine g_skip rfl ?_
          refine g_skip rfl ?_
          refine g_skip rfl ?_
          refine g_no rfl ?_
          refine g_v2 (t1 := 64) (t2 := 77) (u1 := (.bool true)) (u2 := (.tup [])) (.bool true) rfl rfl rfl rfl ?_
          refine g_end ?_
          refine e_end ?_
          refine renew [(3, (.ref (.bx 3) 0 [] (.agg [(Enc.enc (d_2.1 : List (List Int))), (Enc.enc (d_2.2 : List (Int × Int)))]))), (4, (.bool false)), (5, (.int .i64 (d_2.1.length : Int))), (7, (.int .i64 i_18)), (78, (.bool true))] ⟨h3, h4, h5, h7, rfl⟩ ?_
          rintro s ⟨h3, h4, h5, h7, h78⟩
          exact t_f96_j1 H d_2 i_18 (s_l5Shape_l1 F d_2 k) ih true _ ⟨h3, h4, h5, h7, h78⟩ h
        · refine g_yes (Eq.trans (b := .bool (decide (e_25.1 ≥ e_25.2))) rfl (congrArg V.bool hg11)) (g_v1 (t := 8) (u := (.ref (.bx 8) 0 [] (.agg [(.int .i64 e_25.1), (.int .i64 e_25.2)]))) (.ref (.bx 8) 0 [1] (.int .i64 e_25.2)) h8 rfl rfl ?_)
          refine g_yes (Eq.trans (b := .bool (decide (e_25.1 ≥ e_25.2))) rfl (congrArg V.bool hg11)) (g_v1 (t := 59) (u := (.ref (.bx 8) 0 [1] (.int .i64 e_25.2))) (.int .i64 e_25.2) rfl rfl rfl ?_)
          refine g_yes (Eq.trans (b := .bool (decide (e_25.1 ≥ e_25.2))) rfl (congrArg V.bool hg11)) (g_v1 (t := 5) (u := (.int .i64 (d_2.1.length : Int))) (.int .i64 (d_2.1.length : Int)) h5 rfl rfl ?_)
          refine g_yes (Eq.trans (b := .bool (decide (e_25.1 ≥ e_25.2))) rfl (congrArg V.bool hg11)) (g_v2 (t1 := 60) (t2 := 61) (u1 := (.int .i64 e_25.2)) (u2 := (.int .i64 (d_2.1.length : Int))) (.bool (decide (e_25.2 ≥ (d_2.1.length : Int)))) rfl rfl rfl rfl ?_)
          refine g_v2 (t1 := 58) (t2 := 62) (u1 := (.bool false)) (u2 := (.bool (decide (e_25.2 ≥ (d_2.1.length : Int))))) (.bool (decide (e_25.2 ≥ (d_2.1.length : Int)))) (Eq.trans (b := .bool (decide (e_25.1 ≥ e_25.2))) rfl (congrArg V.bool hg11)) rfl rfl rfl ?_
          refine g_v1 (t := 63) (u := (.bool (decide (e_25.2 ≥ (d_2.1.length : Int))))) (.bool (decide (e_25.2 ≥ (d_2.1.length : Int)))) rfl rfl rfl ?_
          refine split_on (c := decide (e_25.2 ≥ (d_2.1.length : Int))) h (fun hg17 h => ?_) (fun hg17 h => ?_)
          · refine g_no (Eq.trans (b := .bool (decide (e_25.2 ≥ (d_2.1.length : Int)))) rfl (congrArg V.bool hg17)) ?_
            refine g_no (Eq.trans (b := .bool (decide (e_25.2 ≥ (d_2.1.length : Int)))) rfl (congrArg V.bool hg17)) ?_
            refine g_no (Eq.trans (b := .bool (decide (e_25.2 ≥ (d_2.1.length : Int)))) rfl (congrArg V.bool hg17)) ?_
            refine g_skip rfl ?_
            refine g_skip rfl ?_
            refine g_skip rfl ?_
            refine g_skip rfl ?_
            refine g_skip rfl ?_
            refine g_skip rfl ?_
            refine g_skip rfl ?_
            refine g_skip rfl ?_
            refine g_skip rfl ?_
            refine g_no (Eq.trans (b := .bool (decide (e_25.2 ≥ (d_2.1.length : Int)))) rfl (congrArg V.bool hg17)) ?_
            refine g_v2 (t1 := 64) (t2 := 77) (u1 := (.bool true)) (u2 := (.tup [])) (.bool true) (Eq.trans (b := .bool (decide (e_25.2 ≥ (d_2.1.length : Int)))) rfl (congrArg V.bool hg17)) rfl rfl rfl ?_
            refine g_end ?_
            refine e_end ?_
            refine renew [(3, (.ref (.bx 3) 0 [] (.agg [(Enc.enc (d_2.1 : List (List Int))), (Enc.enc (d_2.2 : List (Int × Int)))]))), (4, (.bool false)), (5, (.int .i64 (d_2.1.length : Int))), (7, (.int .i64 i_18)), (78, (.bool true))] ⟨h3, h4, h5, h7, rfl⟩ ?_
            rintro s ⟨h3, h4, h5, h7, h78⟩
            exact t_f96_j1 H d_2 i_18 (s_l5Shape_l1 F d_2 k) ih true _ ⟨h3, h4, h5, h7, h78⟩ h
          · refine g_yes (Eq.trans (b := .bool (decide (e_25.2 ≥ (d_2.1.length : Int)))) rfl (congrArg V.bool hg17)) (g_v1 (t := 7) (u := (.int .i64 i_18)) (.int .i64 i_18) h7 rfl rfl ?_)
            refine g_yes (Eq.trans (b := .bool (decide (e_25.2 ≥ (d_2.1.length : Int)))) rfl (congrArg V.bool hg17)) (g_v1 (t := 65) (u := (.int .i64 i_18)) (.bool (decide (i_18 > 0))) rfl rfl rfl ?_)
            refine g_yes (Eq.trans (b := .bool (decide (e_25.2 ≥ (d_2.1.length : Int)))) rfl (congrArg V.bool hg17)) (g_v1 (t := 66) (u := (.bool (decide (i_18 > 0)))) (.bool (decide (i_18 > 0))) rfl rfl rfl ?_)
            refine split_on (c := decide (i_18 > 0)) h (fun hg20 h => ?_) (fun hg20 h => ?_)
            · refine g_yes (Eq.trans (b := .bool (decide (i_18 > 0))) rfl (congrArg V.bool hg20)) (g_v1 (t := 3) (u := (.ref (.bx 3) 0 [] (.agg [(Enc.enc (d_2.1 : List (List Int))), (Enc.enc (d_2.2 : List (Int × Int)))]))) (.ref (.bx 3) 0 [1] (Enc.enc (d_2.2 : List (Int × Int)))) h3 rfl rfl ?_)
              refine g_yes (Eq.trans (b := .bool (decide (i_18 > 0))) rfl (congrArg V.bool hg20)) (g_v1 (t := 68) (u := (.ref (.bx 3) 0 [1] (Enc.enc (d_2.2 : List (Int × Int))))) (Enc.enc (d_2.2 : List (Int × Int))) rfl rfl rfl ?_)
              refine g_yes (Eq.trans (b := .bool (decide (i_18 > 0))) rfl (congrArg V.bool hg20)) (g_v1 (t := 7) (u := (.int .i64 i_18)) (.int .i64 i_18) h7 rfl rfl ?_)
              refine g_yes (Eq.trans (b := .bool (decide (i_18 > 0))) rfl (congrArg V.bool hg20)) (g_v1 (t := 70) (u := (.int .i64 i_18)) (.int .i64 (w64 (i_18 - 1))) rfl rfl rfl ?_)
              obtain ⟨e_29, E_e_29, h⟩ := bind_some h
              refine g_yes (Eq.trans (b := .bool (decide (i_18 > 0))) rfl (congrArg V.bool hg20)) (g_v (.ref .sh 0 [] (.agg [(.int .i64 e_29.1), (.int .i64 e_29.2)])) (ev_idx (t := .sh) (lo := 0) (xs := d_2.2) rfl rfl E_e_29 rfl rfl) ?_)
              refine g_yes (Eq.trans (b := .bool (decide (i_18 > 0))) rfl (congrArg V.bool hg20)) (g_v1 (t := 72) (u := (.ref .sh 0 [] (.agg [(.int .i64 e_29.1), (.int .i64 e_29.2)]))) (.agg [(.int .i64 e_29.1), (.int .i64 e_29.2)]) rfl rfl rfl ?_)
              refine g_yes (Eq.trans (b := .bool (decide (i_18 > 0))) rfl (congrArg V.bool hg20)) (g_v1 (t := 8) (u := (.ref (.bx 8) 0 [] (.agg [(.int .i64 e_25.1), (.int .i64 e_25.2)]))) (.agg [(.int .i64 e_25.1), (.int .i64 e_25.2)]) h8 rfl rfl ?_)
              obtain ⟨r_30, E_r_30, h⟩ := bind_some h
              refine g_yes (Eq.trans (b := .bool (decide (i_18 > 0))) rfl (congrArg V.bool hg20)) (g_call (m := 0) (al := false) (r := (Enc.enc (r_30 : Bool))) [Enc.enc (e_29 : (Int × Int)), Enc.enc (e_25 : (Int × Int))] (ta_cons (v := (.agg [(.int .i64 e_29.1), (.int .i64 e_29.2)])) rfl rfl (Enc.erase_enc (e_29 : (Int × Int))) (ta_cons (v := (.agg [(.int .i64 e_25.1), (.int .i64 e_25.2)])) rfl rfl (Enc.erase_enc (e_25 : (Int × Int))) ta_nil)) (H.c69 _ _ _ E_r_30) H.g69 rfl rfl rfl rfl ?_)
              refine g_yes (Eq.trans (b := .bool (decide (i_18 > 0))) rfl (congrArg V.bool hg20)) (g_v1 (t := 75) (u := (.bool r_30)) (.bool (!r_30)) rfl rfl rfl ?_)
              refine g_yes (Eq.trans (b := .bool (decide (e_25.2 ≥ (d_2.1.length : Int)))) rfl (congrArg V.bool hg17)) (g_v2 (t1 := 67) (t2 := 76) (u1 := (.bool true)) (u2 := (.bool (!r_30))) (.bool (!r_30)) (Eq.trans (b := .bool (decide (i_18 > 0))) rfl (congrArg V.bool hg20)) rfl rfl rfl ?_)
              refine g_v2 (t1 := 64) (t2 := 77) (u1 := (.bool false)) (u2 := (.bool (!r_30))) (.bool (!r_30)) (Eq.trans (b := .bool (decide (e_25.2 ≥ (d_2.1.length : Int)))) rfl (congrArg V.bool hg17)) rfl rfl rfl ?_
              refine g_end ?_
              refine e_end ?_
              refine renew [(3, (.ref (.bx 3) 0 [] (.agg [(Enc.enc (d_2.1 : List (List Int))), (Enc.enc (d_2.2 : List (Int × Int)))]))), (4, (.bool false)), (5, (.int .i64 (d_2.1.length : Int))), (7, (.int .i64 i_18)), (78, (.bool (!r_30)))] ⟨h3, h4, h5, h7, rfl⟩ ?_
              rintro s ⟨h3, h4, h5, h7, h78⟩
              exact t_f96_j1 H d_2 i_18 (s_l5Shape_l1 F d_2 k) ih (!r_30) _ ⟨h3, h4, h5, h7, h78⟩ h
            · refine g_no (Eq.trans (b := .bool (decide (i_18 > 0))) rfl (congrArg V.bool hg20)) ?_
              refine g_no (Eq.trans (b := .bool (decide (i_18 > 0))) rfl (congrArg V.bool hg20)) ?_
              refine g_no (Eq.trans (b := .bool (decide (i_18 > 0))) rfl (congrArg V.bool hg20)) ?_
              refine g_no (Eq.trans (b := .bool (decide (i_18 > 0))) rfl (congrArg V.bool hg20)) ?_
              refine g_no (Eq.trans (b := .bool (decide (i_18 > 0))) rfl (congrArg V.bool hg20)) ?_
              refine g_no (Eq.trans (b := .bool (decide (i_18 > 0))) rfl (congrArg V.bool hg20)) ?_
              refine g_no (Eq.trans (b := .bool (decide (i_18 > 0))) rfl (congrArg V.bool hg20)) ?_
              refine g_no (Eq.trans (b := .bool (decide (i_18 > 0))) rfl (congrArg V.bool hg20)) ?_
              refine g_no (Eq.trans (b := .bool (decide (i_18 > 0))) rfl (congrArg V.bool hg20)) ?_
              refine g_yes (Eq.trans (b := .bool (decide (e_25.2 ≥ (d_2.1.length : Int)))) rfl (congrArg V.bool hg17)) (g_v2 (t1 := 67) (t2 := 76) (u1 := (.bool false)) (u2 := (.tup [])) (.bool false) (Eq.trans (b := .bool (decide (i_18 > 0))) rfl (congrArg V.bool hg20)) rfl rfl rfl ?_)
              refine g_v2 (t1 := 64) (t2 := 77) (u1 := (.bool false)) (u2 := (.bool false)) (.bool false) (Eq.trans (b := .bool (decide (e_25.2 ≥ (d_2.1.length : Int)))) rfl (congrArg V.bool hg17)) rfl rfl rfl ?_
              refine g_end ?_
              refine e_end ?_
              refine renew [(3, (.ref (.bx 3) 0 [] (.agg [(Enc.enc (d_2.1 : List (List Int))), (Enc.enc (d_2.2 : List (Int × Int)))]))), (4, (.bool false)), (5, (.int .i64 (d_2.1.length : Int))), (7, (.int .i64 i_18)), (78, (.bool false))] ⟨h3, h4, h5, h7, rfl⟩ ?_
              rintro s ⟨h3, h4, h5, h7, h78⟩
              exact t_f96_j1 H d_2 i_18 (s_l5Shape_l1 F d_2 k) ih false _ ⟨h3, h4, h5, h7, h78⟩ h
    · refine .exit ?_
      refine .esq ?_
      refine .elp ?_
      refine .ebk ?_
      refine .nsq ?_
      refine .seq ?_
      refine run_reg ?_
      refine e_end ?_
      refine g_v1 (t := 3) (u := (.ref (.bx 3) 0 [] (.agg [(Enc.enc (d_2.1 : List (List Int))), (Enc.enc (d_2.2 : List (Int × Int)))]))) (.ref (.bx 3) 0 [1] (Enc.enc (d_2.2 : List (Int × Int)))) h3 rfl rfl ?_
      refine g_v1 (t := 79) (u := (.ref (.bx 3) 0 [1] (Enc.enc (d_2.2 : List (Int × Int))))) (Enc.enc (d_2.2 : List (Int × Int))) rfl rfl rfl ?_
      refine g_v1 (t := 5) (u := (.int .i64 (d_2.1.length : Int))) (.int .i64 (d_2.1.length : Int)) h5 rfl rfl ?_
      obtain ⟨r_31, E_r_31, h⟩ := bind_some h
      refine g_call (m := 0) (al := false) (r := (Enc.enc (r_31 : (List Int)))) [Enc.enc ((d_2.1.length : Int) : Int)] (ta_cons (v := (.int .i64 (d_2.1.length : Int))) rfl rfl rfl ta_nil) (H.c124 _ _ E_r_31) H.g124 rfl rfl rfl rfl ?_
      obtain ⟨r_32, E_r_32, h⟩ := bind_some h
      refine g_call (m := 0) (al := false) (r := (Enc.enc (r_32 : Bool))) [Enc.enc (d_2.2 : (List (Int × Int))), Enc.enc (r_31 : (List Int))] (ta_cons (v := (Enc.enc (d_2.2 : List (Int × Int)))) rfl rfl (Enc.erase_enc (d_2.2 : (List (Int × Int)))) (ta_cons (v := (Enc.enc (r_31 : List Int))) rfl rfl (Enc.erase_enc (r_31 : (List Int))) ta_nil)) (H.c98 _ _ _ E_r_32) H.g98 rfl rfl rfl rfl ?_
      refine g_v1 (t := 83) (u := (.bool r_32)) (.bool r_32) rfl rfl rfl ?_
      refine g_end ?_
      refine e_end ?_
      refine renew [(4, (.bool r_32))] rfl ?_
      rintro s h4
      refine .nsq ?_
      refine .ret ?_
      have hr := Option.some.inj h
      subst hr
      exact rrA (res_tmp h4) rfl
def s_l5Shape_l2 (F : Nat) (g_1 : (Int × (List (Int × Int)))) (d_2 : ((List (List Int)) × (List (Int × Int))))  : Nat → Int → Option Bool
  | 0, _ => none
  | k + 1, i_7 =>
    bif decide (i_7 < (d_2.1.length : Int)) then
      (idx d_2.1 i_7).bind fun e_10 =>
      (s_l2Set F g_1 e_10).bind fun r_11 =>
      bif (!r_11) then
        some false
      else
        (s_l5Shape_l2 F g_1 d_2 k) (w64 (i_7 + 1))
    else
      s_l5Shape_l1 F d_2 F 0
theorem t_f96_l2 (H : H96 D σ F) (g_1 : (Int × (List (Int × Int)))) (d_2 : ((List (List Int)) × (List (Int × Int))))  : ∀ (k : Nat) (i_7 : Int) (s : Nat → V), Facts [(2, (.ref (.bx 2) 0 [] (.agg [(.int .i64 g_1.1), (Enc.enc (g_1.2 : List (Int × Int)))]))), (3, (.ref (.bx 3) 0 [] (.agg [(Enc.enc (d_2.1 : List (List Int))), (Enc.enc (d_2.2 : List (Int × Int)))]))), (4, (.bool false)), (5, (.int .i64 (d_2.1.length : Int))), (6, (.int .i64 i_7))] s → s_l5Shape_l2 F g_1 d_2 k i_7 = some r → Run D σ (R96 r) (.run A96_8 [.lp A96_8, .bk 0, .sq A96_13]) s := by
  intro k
  induction k with
  | zero => intro i_7 s _ h; exact nomatch (h : (none : Option _) = some r)
  | succ k ih =>
    intro i_7 s hs h
    rw [s_l5Shape_l2] at h
    obtain ⟨h2, h3, h4, h5, h6⟩ := hs
    refine .seq ?_
    refine .seq ?_
    refine run_reg ?_
    refine e_end ?_
    refine g_v1 (t := 6) (u := (.int .i64 i_7)) (.int .i64 i_7) h6 rfl rfl ?_
    refine g_v1 (t := 5) (u := (.int .i64 (d_2.1.length : Int))) (.int .i64 (d_2.1.length : Int)) h5 rfl rfl ?_
    refine g_v2 (t1 := 23) (t2 := 24) (u1 := (.int .i64 i_7)) (u2 := (.int .i64 (d_2.1.length : Int))) (.bool (decide (i_7 < (d_2.1.length : Int)))) rfl rfl rfl rfl ?_
    refine g_end ?_
    refine e_end ?_
    refine renew [(2, (.ref (.bx 2) 0 [] (.agg [(.int .i64 g_1.1), (Enc.enc (g_1.2 : List (Int × Int)))]))), (3, (.ref (.bx 3) 0 [] (.agg [(Enc.enc (d_2.1 : List (List Int))), (Enc.enc (d_2.2 : List (Int × Int)))]))), (4, (.bool false)), (5, (.int .i64 (d_2.1.length : Int))), (6, (.int .i64 i_7)), (25, (.bool (decide (i_7 < (d_2.1.length : Int)))))] ⟨h2, h3, h4, h5, h6, rfl⟩ ?_
    rintro s ⟨h2, h3, h4, h5, h6, h25⟩
    refine .nsq ?_
    refine run_cond (t := decide (i_7 < (d_2.1.length : Int))) h25 h (fun h => ?_) (fun h => ?_)
    · refine .skip ?_
      refine .nsq ?_
      refine .seq ?_
      refine .block ?_
      refine .seq ?_
      refine run_reg ?_
      refine e_end ?_
      refine g_v1 (t := 2) (u := (.ref (.bx 2) 0 [] (.agg [(.int .i64 g_1.1), (Enc.enc (g_1.2 : List (Int × Int)))]))) (.agg [(.int .i64 g_1.1), (Enc.enc (g_1.2 : List (Int × Int)))]) h2 rfl rfl ?_
      refine g_v1 (t := 3) (u := (.ref (.bx 3) 0 [] (.agg [(Enc.enc (d_2.1 : List (List Int))), (Enc.enc (d_2.2 : List (Int × Int)))]))) (.ref (.bx 3) 0 [0] (Enc.enc (d_2.1 : List (List Int)))) h3 rfl rfl ?_
      refine g_v1 (t := 29) (u := (.ref (.bx 3) 0 [0] (Enc.enc (d_2.1 : List (List Int))))) (Enc.enc (d_2.1 : List (List Int))) rfl rfl rfl ?_
      refine g_v1 (t := 6) (u := (.int .i64 i_7)) (.int .i64 i_7) h6 rfl rfl ?_
      obtain ⟨e_10, E_e_10, h⟩ := bind_some h
      refine g_v (.ref .sh 0 [] (Enc.enc (e_10 : List Int))) (ev_idx (t := .sh) (lo := 0) (xs := d_2.1) rfl rfl E_e_10 rfl rfl) ?_
      refine g_v1 (t := 32) (u := (.ref .sh 0 [] (Enc.enc (e_10 : List Int)))) (Enc.enc (e_10 : List Int)) rfl rfl rfl ?_
      obtain ⟨r_11, E_r_11, h⟩ := bind_some h
      refine g_call (m := 0) (al := false) (r := (Enc.enc (r_11 : Bool))) [Enc.enc (g_1 : (Int × (List (Int × Int)))), Enc.enc (e_10 : (List Int))] (ta_cons (v := (.agg [(.int .i64 g_1.1), (Enc.enc (g_1.2 : List (Int × Int)))])) rfl rfl (Enc.erase_enc (g_1 : (Int × (List (Int × Int))))) (ta_cons (v := (Enc.enc (e_10 : List Int))) rfl rfl (Enc.erase_enc (e_10 : (List Int))) ta_nil)) (H.c89 _ _ _ E_r_11) H.g89 rfl rfl rfl rfl ?_
      refine g_v1 (t := 34) (u := (.bool r_11)) (.bool (!r_11)) rfl rfl rfl ?_
      refine g_end ?_
      refine e_end ?_
      refine renew [(2, (.ref (.bx 2) 0 [] (.agg [(.int .i64 g_1.1), (Enc.enc (g_1.2 : List (Int × Int)))]))), (3, (.ref (.bx 3) 0 [] (.agg [(Enc.enc (d_2.1 : List (List Int))), (Enc.enc (d_2.2 : List (Int × Int)))]))), (4, (.bool false)), (5, (.int .i64 (d_2.1.length : Int))), (6, (.int .i64 i_7)), (35, (.bool (!r_11)))] ⟨h2, h3, h4, h5, h6, rfl⟩ ?_
      rintro s ⟨h2, h3, h4, h5, h6, h35⟩
      refine .nsq ?_
      refine run_cond (t := (!r_11)) h35 h (fun h => ?_) (fun h => ?_)
      · refine .seq ?_
        refine run_reg ?_
        refine e_end ?_
        refine g_v0 (.bool false) rfl rfl ?_
        refine g_end ?_
        refine e_end ?_
        refine renew [(2, (.ref (.bx 2) 0 [] (.agg [(.int .i64 g_1.1), (Enc.enc (g_1.2 : List (Int × Int)))]))), (3, (.ref (.bx 3) 0 [] (.agg [(Enc.enc (d_2.1 : List (List Int))), (Enc.enc (d_2.2 : List (Int × Int)))]))), (4, (.bool false)), (5, (.int .i64 (d_2.1.length : Int))), (6, (.int .i64 i_7))] ⟨h2, h3, rfl, h5, h6⟩ ?_
        rintro s ⟨h2, h3, h4, h5, h6⟩
        refine .nsq ?_
        refine .ret ?_
        have hr := Option.some.inj h
        subst hr
        exact rrA (res_tmp h4) rfl
      · refine .skip ?_
        refine .nbk ?_
        refine .nsq ?_
        refine run_reg ?_
        refine e_end ?_
        refine g_v1 (t := 6) (u := (.int .i64 i_7)) (.int .i64 i_7) h6 rfl rfl ?_
        refine g_v1 (t := 26) (u := (.int .i64 i_7)) (.int .i64 (w64 (i_7 + 1))) rfl rfl rfl ?_
        refine g_v1 (t := 27) (u := (.int .i64 (w64 (i_7 + 1)))) (.int .i64 (w64 (i_7 + 1))) rfl rfl rfl ?_
        refine g_end ?_
        refine e_end ?_
        refine renew [(2, (.ref (.bx 2) 0 [] (.agg [(.int .i64 g_1.1), (Enc.enc (g_1.2 : List (Int × Int)))]))), (3, (.ref (.bx 3) 0 [] (.agg [(Enc.enc (d_2.1 : List (List Int))), (Enc.enc (d_2.2 : List (Int × Int)))]))), (4, (.bool false)), (5, (.int .i64 (d_2.1.length : Int))), (6, (.int .i64 (w64 (i_7 + 1))))] ⟨h2, h3, h4, h5, rfl⟩ ?_
        rintro s ⟨h2, h3, h4, h5, h6⟩
        refine .nlp ?_
        exact ih (w64 (i_7 + 1)) _ ⟨h2, h3, h4, h5, h6⟩ h
    · refine .exit ?_
      refine .esq ?_
      refine .elp ?_
      refine .ebk ?_
      refine .nsq ?_
      refine .seq ?_
      refine .seq ?_
      refine run_reg ?_
      refine e_end ?_
      refine g_v0 (.int .i64 0) rfl rfl ?_
      refine g_end ?_
      refine e_end ?_
      refine renew [(3, (.ref (.bx 3) 0 [] (.agg [(Enc.enc (d_2.1 : List (List Int))), (Enc.enc (d_2.2 : List (Int × Int)))]))), (4, (.bool false)), (5, (.int .i64 (d_2.1.length : Int))), (7, (.int .i64 0))] ⟨h3, h4, h5, rfl⟩ ?_
      rintro s ⟨h3, h4, h5, h7⟩
      refine .nsq ?_
      refine .block ?_
      refine .loop ?_
      exact t_f96_l1 H d_2 F 0 _ ⟨h3, h4, h5, h7⟩ h
def s_l5Shape_j2 (F : Nat) (g_1 : (Int × (List (Int × Int)))) (d_2 : ((List (List Int)) × (List (Int × Int))))  (t22_4 : Bool) : Option Bool :=
  bif t22_4 then
    some false
  else
    s_l5Shape_l2 F g_1 d_2 F 0
theorem t_f96_j2 (H : H96 D σ F) (g_1 : (Int × (List (Int × Int)))) (d_2 : ((List (List Int)) × (List (Int × Int))))  (t22_4 : Bool) (s : Nat → V) (hs : Facts [(2, (.ref (.bx 2) 0 [] (.agg [(.int .i64 g_1.1), (Enc.enc (g_1.2 : List (Int × Int)))]))), (3, (.ref (.bx 3) 0 [] (.agg [(Enc.enc (d_2.1 : List (List Int))), (Enc.enc (d_2.2 : List (Int × Int)))]))), (4, (.bool false)), (5, (.int .i64 (d_2.1.length : Int))), (22, (.bool t22_4))] s) (h : s_l5Shape_j2 F g_1 d_2  t22_4 = some r) : Run D σ (R96 r) (.nrm [.sq A96_15, .sq A96_16]) s := by
  unfold s_l5Shape_j2 at h
  obtain ⟨h2, h3, h4, h5, h22⟩ := hs
  refine .nsq ?_
  refine run_cond (t := t22_4) h22 h (fun h => ?_) (fun h => ?_)
  · refine .seq ?_
    refine run_reg ?_
    refine e_end ?_
    refine g_v0 (.bool false) rfl rfl ?_
    refine g_end ?_
    refine e_end ?_
    refine renew [(2, (.ref (.bx 2) 0 [] (.agg [(.int .i64 g_1.1), (Enc.enc (g_1.2 : List (Int × Int)))]))), (3, (.ref (.bx 3) 0 [] (.agg [(Enc.enc (d_2.1 : List (List Int))), (Enc.enc (d_2.2 : List (Int × Int)))]))), (4, (.bool false)), (5, (.int .i64 (d_2.1.length : Int)))] ⟨h2, h3, rfl, h5⟩ ?_
    rintro s ⟨h2, h3, h4, h5⟩
    refine .nsq ?_
    refine .ret ?_
    have hr := Option.some.inj h
    subst hr
    exact rrA (res_tmp h4) rfl
  · refine .skip ?_
    refine .nsq ?_
    refine .seq ?_
    refine .seq ?_
    refine run_reg ?_
    refine e_end ?_
    refine g_v0 (.int .i64 0) rfl rfl ?_
    refine g_end ?_
    refine e_end ?_
    refine renew [(2, (.ref (.bx 2) 0 [] (.agg [(.int .i64 g_1.1), (Enc.enc (g_1.2 : List (Int × Int)))]))), (3, (.ref (.bx 3) 0 [] (.agg [(Enc.enc (d_2.1 : List (List Int))), (Enc.enc (d_2.2 : List (Int × Int)))]))), (4, (.bool false)), (5, (.int .i64 (d_2.1.length : Int))), (6, (.int .i64 0))] ⟨h2, h3, h4, h5, rfl⟩ ?_
    rintro s ⟨h2, h3, h4, h5, h6⟩
    refine .nsq ?_
    refine .block ?_
    refine .loop ?_
    exact t_f96_l2 H g_1 d_2 F 0 _ ⟨h2, h3, h4, h5, h6⟩ h
def s_l5Shape (F : Nat) (g_1 : (Int × (List (Int × Int)))) (d_2 : ((List (List Int)) × (List (Int × Int)))) : Option Bool :=
  (s_l1In F (d_2.1.length : Int) 1 8).bind fun r_33 =>
  bif (!r_33) then
    s_l5Shape_j2 F g_1 d_2 true
  else
    s_l5Shape_j2 F g_1 d_2 ((d_2.2.length : Int) != (w64 ((d_2.1.length : Int) - 1)))
theorem t96 (H : H96 D σ F) (g_1 : (Int × (List (Int × Int)))) (d_2 : ((List (List Int)) × (List (Int × Int)))) (s : Nat → V) (hs : Facts [(0, (.agg [(.int .i64 g_1.1), (Enc.enc (g_1.2 : List (Int × Int)))])), (1, (.agg [(Enc.enc (d_2.1 : List (List Int))), (Enc.enc (d_2.2 : List (Int × Int)))]))] s) (h : s_l5Shape F g_1 d_2 = some r) : Run D σ (R96 r) (.run A96 []) s := by
  unfold s_l5Shape at h
  obtain ⟨h0, h1⟩ := hs
  refine .seq ?_
  refine run_reg ?_
  refine e_clr ?_
  refine e_end ?_
  refine g_box (.agg [(.int .i64 g_1.1), (Enc.enc (g_1.2 : List (Int × Int)))]) (rd_of (keep_clear (s := s) (pk := [2, 3]) h0 rfl (map_agg (maps_cons rfl (maps_cons (Enc.map_enc _ (g_1.2 : List (Int × Int))) maps_nil)))) rfl) (gone_clear (s := s) (pk := [2, 3]) (t := 2) rfl) rfl ?_
  refine g_box (.agg [(Enc.enc (d_2.1 : List (List Int))), (Enc.enc (d_2.2 : List (Int × Int)))]) (rd_of (keep_clear (s := s) (pk := [2, 3]) h1 rfl (map_agg (maps_cons (Enc.map_enc _ (d_2.1 : List (List Int))) (maps_cons (Enc.map_enc _ (d_2.2 : List (Int × Int))) maps_nil)))) rfl) (gone_clear (s := s) (pk := [2, 3]) (t := 3) rfl) rfl ?_
  refine g_v0 (.bool false) rfl rfl ?_
  refine g_end ?_
  refine e_end ?_
  refine renew [(2, (.ref (.bx 2) 0 [] (.agg [(.int .i64 g_1.1), (Enc.enc (g_1.2 : List (Int × Int)))]))), (3, (.ref (.bx 3) 0 [] (.agg [(Enc.enc (d_2.1 : List (List Int))), (Enc.enc (d_2.2 : List (Int × Int)))]))), (4, (.bool false))] ⟨rfl, rfl, rfl⟩ ?_
  rintro s ⟨h2, h3, h4⟩
  refine .nsq ?_
  refine .seq ?_
  refine run_reg ?_
  refine e_end ?_
  refine g_v1 (t := 3) (u := (.ref (.bx 3) 0 [] (.agg [(Enc.enc (d_2.1 : List (List Int))), (Enc.enc (d_2.2 : List (Int × Int)))]))) (.ref (.bx 3) 0 [0] (Enc.enc (d_2.1 : List (List Int)))) h3 rfl rfl ?_
  refine g_v1 (t := 9) (u := (.ref (.bx 3) 0 [0] (Enc.enc (d_2.1 : List (List Int))))) (Enc.enc (d_2.1 : List (List Int))) rfl rfl rfl ?_
  refine g_v (.int .i64 (d_2.1.length : Int)) (ev_len (xs := d_2.1) rfl) ?_
  refine g_v1 (t := 11) (u := (.int .i64 (d_2.1.length : Int))) (.int .i64 (d_2.1.length : Int)) rfl rfl rfl ?_
  refine g_end ?_
  refine e_end ?_
  refine renew [(2, (.ref (.bx 2) 0 [] (.agg [(.int .i64 g_1.1), (Enc.enc (g_1.2 : List (Int × Int)))]))), (3, (.ref (.bx 3) 0 [] (.agg [(Enc.enc (d_2.1 : List (List Int))), (Enc.enc (d_2.2 : List (Int × Int)))]))), (4, (.bool false)), (5, (.int .i64 (d_2.1.length : Int)))] ⟨h2, h3, h4, rfl⟩ ?_
  rintro s ⟨h2, h3, h4, h5⟩
  refine .nsq ?_
  refine .seq ?_
  refine .seq ?_
  refine run_reg ?_
  refine e_end ?_
  refine g_v1 (t := 5) (u := (.int .i64 (d_2.1.length : Int))) (.int .i64 (d_2.1.length : Int)) h5 rfl rfl ?_
  obtain ⟨r_33, E_r_33, h⟩ := bind_some h
  refine g_call (m := 0) (al := false) (r := (Enc.enc (r_33 : Bool))) [Enc.enc ((d_2.1.length : Int) : Int), Enc.enc (1 : Int), Enc.enc (8 : Int)] (ta_cons (v := (.int .i64 (d_2.1.length : Int))) rfl rfl rfl (ta_cons (v := (.int .i64 1)) rfl rfl rfl (ta_cons (v := (.int .i64 8)) rfl rfl rfl ta_nil))) (H.c65 _ _ _ _ E_r_33) H.g65 rfl rfl rfl rfl ?_
  refine g_v1 (t := 13) (u := (.bool r_33)) (.bool (!r_33)) rfl rfl rfl ?_
  refine g_v1 (t := 14) (u := (.bool (!r_33))) (.bool (!r_33)) rfl rfl rfl ?_
  refine split_on (c := (!r_33)) h (fun hg4 h => ?_) (fun hg4 h => ?_)
  · refine g_no (Eq.trans (b := .bool (!r_33)) rfl (congrArg V.bool hg4)) ?_
    refine g_no (Eq.trans (b := .bool (!r_33)) rfl (congrArg V.bool hg4)) ?_
    refine g_no (Eq.trans (b := .bool (!r_33)) rfl (congrArg V.bool hg4)) ?_
    refine g_no (Eq.trans (b := .bool (!r_33)) rfl (congrArg V.bool hg4)) ?_
    refine g_no (Eq.trans (b := .bool (!r_33)) rfl (congrArg V.bool hg4)) ?_
    refine g_no (Eq.trans (b := .bool (!r_33)) rfl (congrArg V.bool hg4)) ?_
    refine g_v2 (t1 := 15) (t2 := 21) (u1 := (.bool true)) (u2 := (.tup [])) (.bool true) (Eq.trans (b := .bool (!r_33)) rfl (congrArg V.bool hg4)) rfl rfl rfl ?_
    refine g_end ?_
    refine e_end ?_
    refine renew [(2, (.ref (.bx 2) 0 [] (.agg [(.int .i64 g_1.1), (Enc.enc (g_1.2 : List (Int × Int)))]))), (3, (.ref (.bx 3) 0 [] (.agg [(Enc.enc (d_2.1 : List (List Int))), (Enc.enc (d_2.2 : List (Int × Int)))]))), (4, (.bool false)), (5, (.int .i64 (d_2.1.length : Int))), (22, (.bool true))] ⟨h2, h3, h4, h5, rfl⟩ ?_
    rintro s ⟨h2, h3, h4, h5, h22⟩
    exact t_f96_j2 H g_1 d_2 true _ ⟨h2, h3, h4, h5, h22⟩ h
  · refine g_yes (Eq.trans (b := .bool (!r_33)) rfl (congrArg V.bool hg4)) (g_v1 (t := 3) (u := (.ref (.bx 3) 0 [] (.agg [(Enc.enc (d_2.1 : List (List Int))), (Enc.enc (d_2.2 : List (Int × Int)))]))) (.ref (.bx 3) 0 [1] (Enc.enc (d_2.2 : List (Int × Int)))) h3 rfl rfl ?_)
    refine g_yes (Eq.trans (b := .bool (!r_33)) rfl (congrArg V.bool hg4)) (g_v1 (t := 16) (u := (.ref (.bx 3) 0 [1] (Enc.enc (d_2.2 : List (Int × Int))))) (Enc.enc (d_2.2 : List (Int × Int))) rfl rfl rfl ?_)
    refine g_yes (Eq.trans (b := .bool (!r_33)) rfl (congrArg V.bool hg4)) (g_v (.int .i64 (d_2.2.length : Int)) (ev_len (xs := d_2.2) rfl) ?_)
    refine g_yes (Eq.trans (b := .bool (!r_33)) rfl (congrArg V.bool hg4)) (g_v1 (t := 5) (u := (.int .i64 (d_2.1.length : Int))) (.int .i64 (d_2.1.length : Int)) h5 rfl rfl ?_)
    refine g_yes (Eq.trans (b := .bool (!r_33)) rfl (congrArg V.bool hg4)) (g_v1 (t := 19) (u := (.int .i64 (d_2.1.length : Int))) (.int .i64 (w64 ((d_2.1.length : Int) - 1))) rfl rfl rfl ?_)
    refine g_yes (Eq.trans (b := .bool (!r_33)) rfl (congrArg V.bool hg4)) (g_v2 (t1 := 18) (t2 := 20) (u1 := (.int .i64 (d_2.2.length : Int))) (u2 := (.int .i64 (w64 ((d_2.1.length : Int) - 1)))) (.bool ((d_2.2.length : Int) != (w64 ((d_2.1.length : Int) - 1)))) rfl rfl rfl rfl ?_)
    refine g_v2 (t1 := 15) (t2 := 21) (u1 := (.bool false)) (u2 := (.bool ((d_2.2.length : Int) != (w64 ((d_2.1.length : Int) - 1))))) (.bool ((d_2.2.length : Int) != (w64 ((d_2.1.length : Int) - 1)))) (Eq.trans (b := .bool (!r_33)) rfl (congrArg V.bool hg4)) rfl rfl rfl ?_
    refine g_end ?_
    refine e_end ?_
    refine renew [(2, (.ref (.bx 2) 0 [] (.agg [(.int .i64 g_1.1), (Enc.enc (g_1.2 : List (Int × Int)))]))), (3, (.ref (.bx 3) 0 [] (.agg [(Enc.enc (d_2.1 : List (List Int))), (Enc.enc (d_2.2 : List (Int × Int)))]))), (4, (.bool false)), (5, (.int .i64 (d_2.1.length : Int))), (22, (.bool ((d_2.2.length : Int) != (w64 ((d_2.1.length : Int) - 1)))))] ⟨h2, h3, h4, h5, rfl⟩ ?_
    rintro s ⟨h2, h3, h4, h5, h22⟩
    exact t_f96_j2 H g_1 d_2 ((d_2.2.length : Int) != (w64 ((d_2.1.length : Int) - 1))) _ ⟨h2, h3, h4, h5, h22⟩ h
end
def e96 (F : Nat) : Ent := ⟨96, da (fun (x : ((Int × (List (Int × Int))) × ((List (List Int)) × (List (Int × Int))) × Unit)) => s_l5Shape F x.1 x.2.1) (fun (r : Bool) => (Enc.enc (r : Bool))), 0, false, selF []⟩
theorem p96 {F : Nat} {x0 : (Int × (List (Int × Int)))} {x1 : ((List (List Int)) × (List (Int × Int)))} {r : Bool} (h : s_l5Shape F x0 x1 = some r) : (e96 F).den [Enc.enc x0, Enc.enc x1] = some (Enc.enc (r : Bool)) := da_put (f := fun (x : ((Int × (List (Int × Int))) × ((List (List Int)) × (List (Int × Int))) × Unit)) => s_l5Shape F x.1 x.2.1) (t := fun (r : Bool) => (Enc.enc (r : Bool))) (x0, x1, ()) h
theorem o96 {D : Den} {σ : Sig} {F : Nat} (hF : Fits2 Try.prog D σ) (H : H96 D σ F) : (e96 F).Ok Try.prog := by
  refine ⟨fun args r h => ?_, ⟨Try.f96, Try.func96, rfl, rfl⟩⟩
  obtain ⟨⟨x0, x1, _⟩, y, rfl, hy, rfl⟩ := da_open h
  exact contract_run hF (by kernel_rfl) Try.func96 rfl c96 (show 2 ≤ Try.f96.ntmps by decide) (t96 H x0 x1 _ ⟨rfl, rfl⟩ hy)
/- loop.example/g01109/spec.l5With -/
def A97_2 : AC := (AC.cond (O.t 14) AC.skip (AC.exit 0))
def A97_7 : AC := (AC.cond (O.t 20) AC.skip (AC.exit 2))
def A97_9 : AC := (AC.reg [] [(I.mk (some 21) none false (X.v (A.mov (O.t 8)))), (I.mk (some 22) none false (X.v (A.bin BinOp.add (O.t 21) (O.k (V.int IntKind.i64 (Int.ofNat 1)))))), (I.mk (some 8) none false (X.v (A.mov (O.t 22))))] [])
def A97_8 : AC := (AC.seq (AC.block 3 (AC.reg [] [(I.mk (some 23) none false (X.v (A.mov (O.t 7)))), (I.mk (some 24) none false (X.v (A.mov (O.t 23)))), (I.mk (some 25) (some (24, true)) false (X.v (A.fld (O.t 2) 0 0))), (I.mk (some 26) (some (24, true)) false (X.v (A.load Sh.p (O.t 25)))), (I.mk (some 27) (some (24, true)) false (X.v (A.mov (O.t 6)))), (I.mk (some 28) (some (24, true)) false (X.v (A.idx (O.t 26) (O.t 27) 1))), (I.mk (some 29) (some (24, true)) false (X.v (A.load Sh.p (O.t 28)))), (I.mk (some 30) (some (24, true)) false (X.v (A.mov (O.t 1)))), (I.mk (some 31) (some (24, true)) false (X.v (A.mov (O.t 8)))), (I.mk (some 32) (some (24, true)) false (X.v (A.idx (O.t 30) (O.t 31) 1))), (I.mk (some 33) (some (24, true)) false (X.v (A.load Sh.s (O.t 32)))), (I.mk (some 34) (some (24, true)) false (X.call (O.k (V.fn 45 [] [])) [(O.t 29), (O.t 33)])), (I.mk (some 35) none false (X.v (A.pick (O.t 24) (O.t 34) (O.k (V.bool false))))), (I.mk (some 7) none false (X.v (A.mov (O.t 35))))] [])) A97_9)
def A97_6 : AC := (AC.seq (AC.seq (AC.reg [] [(I.mk (some 17) none false (X.v (A.mov (O.t 8)))), (I.mk (some 18) none false (X.v (A.mov (O.t 1)))), (I.mk (some 19) none false (X.v (A.len (O.t 18)))), (I.mk (some 20) none false (X.v (A.bin BinOp.lss (O.t 17) (O.t 19))))] []) A97_7) A97_8)
def A97_5 : AC := (AC.block 2 (AC.loop A97_6))
def A97_11 : AC := (AC.cond (O.t 36) (AC.reg [.clr [39, 40]] [(I.mk (some 37) none false (X.v (A.mov (O.t 5)))), (I.mk (some 38) none false (X.v (A.mov (O.t 6)))), (I.mk (some 39) none false (X.lit (V.int IntKind.i64 (Int.ofNat 0)) 1 [(0, 0, (O.t 38))])), (I.mk (some 40) none false (X.app Sh.s (O.t 37) (O.t 39))), (I.mk (some 5) none false (X.v (A.mov (O.t 40))))] [.home 40 5]) AC.skip)
def A97_10 : AC := (AC.seq (AC.reg [] [(I.mk (some 36) none false (X.v (A.mov (O.t 7))))] []) A97_11)
def A97_4 : AC := (AC.seq (AC.seq (AC.reg [] [(I.mk (some 8) none false (X.v (A.mov (O.k (V.int IntKind.i64 (Int.ofNat 0))))))] []) A97_5) A97_10)
def A97_12 : AC := (AC.reg [] [(I.mk (some 15) none false (X.v (A.mov (O.t 6)))), (I.mk (some 16) none false (X.v (A.bin BinOp.add (O.t 15) (O.k (V.int IntKind.i64 (Int.ofNat 1)))))), (I.mk (some 6) none false (X.v (A.mov (O.t 16))))] [])
def A97_3 : AC := (AC.seq (AC.block 1 (AC.seq (AC.reg [] [(I.mk (some 7) none false (X.v (A.mov (O.k (V.bool true)))))] []) A97_4)) A97_12)
def A97_1 : AC := (AC.seq (AC.seq (AC.reg [] [(I.mk (some 10) none false (X.v (A.mov (O.t 6)))), (I.mk (some 11) none false (X.v (A.fld (O.t 2) 0 0))), (I.mk (some 12) none false (X.v (A.load Sh.p (O.t 11)))), (I.mk (some 13) none false (X.v (A.len (O.t 12)))), (I.mk (some 14) none false (X.v (A.bin BinOp.lss (O.t 10) (O.t 13))))] []) A97_2) A97_3)
def A97_13 : AC := (AC.seq (AC.reg [] [(I.mk (some 41) none false (X.v (A.mov (O.t 5)))), (I.mk (some 4) none false (X.v (A.mov (O.t 41))))] [.home 5 4]) AC.ret)
def A97_16 : AC := (AC.block 0 (AC.loop A97_1))
def A97_15 : AC := (AC.seq (AC.seq (AC.reg [] [(I.mk (some 6) none false (X.v (A.mov (O.k (V.int IntKind.i64 (Int.ofNat 0))))))] []) A97_16) A97_13)
def A97_14 : AC := (AC.seq (AC.reg [.clr [9]] [(I.mk (some 9) none false (X.lit (V.int IntKind.i64 (Int.ofNat 0)) 0 [])), (I.mk (some 5) none false (X.v (A.mov (O.t 9))))] [.home 9 5]) A97_15)
def A97 : AC := (AC.seq (AC.reg [.clr [2]] [(I.mk (some 2) none false (X.box (O.t 0))), (I.mk (some 4) none false (X.v (A.mov (O.k (V.sl Tok.nl Sh.s 0 [])))))] []) A97_14)
def an97 : List An := [{ id := 0, pre := [.clr [2]], ep := [], lin := [], sp := [] }, { id := 1, pre := [.clr [9]], ep := [.home 9 5], lin := [], sp := [] }, { id := 11, pre := [.clr [39, 40]], ep := [.home 40 5], lin := [], sp := [] }, { id := 12, pre := [], ep := [.home 5 4], lin := [], sp := [] }]
theorem c97 : cC Try.prog Try.f97.ntmps an97 (Try.f97.body.getD .skip) = some A97 := by kernel_rfl
structure H97 (D : Den) (σ : Sig) (F : Nat) : Prop where
  c45 : ∀ (x0 : (List Int)) (x1 : Int) r, s_l1Has F x0 x1 = some r → D 45 [Enc.enc x0, Enc.enc x1] = some (Enc.enc (r : Bool))
  g45 : σ 45 = some (0, false)
abbrev R97 (r : (List Int)) : (Nat → V) → Prop := RR Try.prog [.tmp 4] 0 false (Enc.enc (r : (List Int)))
section
variable {D : Den} {σ : Sig} {F : Nat} {r : (List Int)}
def s_l5With_j1 (F : Nat) (list_2 : (List Int)) (d_1 : ((List (List Int)) × (List (Int × Int)))) (out_28 : (List Int)) (i_29 : Int) (k_62 : Int) (c1 : (List Int) → Int → Option (List Int)) (c4 : Bool → Int → Option (List Int)) (all_73 : Bool) : Option (List Int) :=
  c4 all_73 (w64 (k_62 + 1))
theorem t_f97_j1 (H : H97 D σ F) (list_2 : (List Int)) (d_1 : ((List (List Int)) × (List (Int × Int)))) (out_28 : (List Int)) (i_29 : Int) (k_62 : Int) (c1 : (List Int) → Int → Option (List Int)) (Hc1 : ∀ (out_28 : (List Int)) (i_29 : Int) (s : Nat → V), Facts [(1, (Enc.enc (list_2 : List Int))), (2, (.ref (.bx 2) 0 [] (.agg [(Enc.enc (d_1.1 : List (List Int))), (Enc.enc (d_1.2 : List (Int × Int)))]))), (4, (.sl .nl (Enc.shp Int) 0 [])), (5, (encO (.at 5 []) (.of (out_28 : List Int)))), (6, (.int .i64 i_29))] s → c1 out_28 i_29 = some r → Run D σ (R97 r) (.run A97_1 [.lp A97_1, .bk 0, .sq A97_13]) s) (c4 : Bool → Int → Option (List Int)) (Hc4 : ∀ (all_61 : Bool) (k_62 : Int) (s : Nat → V), Facts [(1, (Enc.enc (list_2 : List Int))), (2, (.ref (.bx 2) 0 [] (.agg [(Enc.enc (d_1.1 : List (List Int))), (Enc.enc (d_1.2 : List (Int × Int)))]))), (4, (.sl .nl (Enc.shp Int) 0 [])), (5, (encO (.at 5 []) (.of (out_28 : List Int)))), (6, (.int .i64 i_29)), (7, (.bool all_61)), (8, (.int .i64 k_62))] s → c4 all_61 k_62 = some r → Run D σ (R97 r) (.run A97_6 [.lp A97_6, .bk 2, .sq A97_10, .bk 1, .sq A97_12, .lp A97_1, .bk 0, .sq A97_13]) s) (all_73 : Bool) (s : Nat → V) (hs : Facts [(1, (Enc.enc (list_2 : List Int))), (2, (.ref (.bx 2) 0 [] (.agg [(Enc.enc (d_1.1 : List (List Int))), (Enc.enc (d_1.2 : List (Int × Int)))]))), (4, (.sl .nl (Enc.shp Int) 0 [])), (5, (encO (.at 5 []) (.of (out_28 : List Int)))), (6, (.int .i64 i_29)), (7, (.bool all_73)), (8, (.int .i64 k_62))] s) (h : s_l5With_j1 F list_2 d_1 out_28 i_29 k_62 c1 c4 all_73 = some r) : Run D σ (R97 r) (.nrm [.bk 3, .sq A97_9, .lp A97_6, .bk 2, .sq A97_10, .bk 1, .sq A97_12, .lp A97_1, .bk 0, .sq A97_13]) s := by
  unfold s_l5With_j1 at h
  obtain ⟨h1, h2, h4, h5, h6, h7, h8⟩ := hs
  refine .nbk ?_
  refine .nsq ?_
  refine run_reg ?_
  refine e_end ?_
  refine g_v1 (t := 8) (u := (.int .i64 k_62)) (.int .i64 k_62) h8 rfl rfl ?_
  refine g_v1 (t := 21) (u := (.int .i64 k_62)) (.int .i64 (w64 (k_62 + 1))) rfl rfl rfl ?_
  refine g_v1 (t := 22) (u := (.int .i64 (w64 (k_62 + 1)))) (.int .i64 (w64 (k_62 + 1))) rfl rfl rfl ?_
  refine g_end ?_
  refine e_end ?_
  refine renew [(1, (Enc.enc (list_2 : List Int))), (2, (.ref (.bx 2) 0 [] (.agg [(Enc.enc (d_1.1 : List (List Int))), (Enc.enc (d_1.2 : List (Int × Int)))]))), (4, (.sl .nl (Enc.shp Int) 0 [])), (5, (encO (.at 5 []) (.of (out_28 : List Int)))), (6, (.int .i64 i_29)), (7, (.bool all_73)), (8, (.int .i64 (w64 (k_62 + 1))))] ⟨h1, h2, h4, h5, h6, h7, rfl⟩ ?_
  rintro s ⟨h1, h2, h4, h5, h6, h7, h8⟩
  refine .nlp ?_
  exact Hc4 all_73 (w64 (k_62 + 1)) _ ⟨h1, h2, h4, h5, h6, h7, h8⟩ h
def s_l5With_j2 (F : Nat) (list_2 : (List Int)) (d_1 : ((List (List Int)) × (List (Int × Int)))) (i_29 : Int) (c1 : (List Int) → Int → Option (List Int)) (out_78 : (List Int)) : Option (List Int) :=
  c1 out_78 (w64 (i_29 + 1))
theorem t_f97_j2 (H : H97 D σ F) (list_2 : (List Int)) (d_1 : ((List (List Int)) × (List (Int × Int)))) (i_29 : Int) (c1 : (List Int) → Int → Option (List Int)) (Hc1 : ∀ (out_28 : (List Int)) (i_29 : Int) (s : Nat → V), Facts [(1, (Enc.enc (list_2 : List Int))), (2, (.ref (.bx 2) 0 [] (.agg [(Enc.enc (d_1.1 : List (List Int))), (Enc.enc (d_1.2 : List (Int × Int)))]))), (4, (.sl .nl (Enc.shp Int) 0 [])), (5, (encO (.at 5 []) (.of (out_28 : List Int)))), (6, (.int .i64 i_29))] s → c1 out_28 i_29 = some r → Run D σ (R97 r) (.run A97_1 [.lp A97_1, .bk 0, .sq A97_13]) s) (out_78 : (List Int)) (s : Nat → V) (hs : Facts [(1, (Enc.enc (list_2 : List Int))), (2, (.ref (.bx 2) 0 [] (.agg [(Enc.enc (d_1.1 : List (List Int))), (Enc.enc (d_1.2 : List (Int × Int)))]))), (4, (.sl .nl (Enc.shp Int) 0 [])), (5, (encO (.at 5 []) (.of (out_78 : List Int)))), (6, (.int .i64 i_29))] s) (h : s_l5With_j2 F list_2 d_1 i_29 c1 out_78 = some r) : Run D σ (R97 r) (.nrm [.bk 1, .sq A97_12, .lp A97_1, .bk 0, .sq A97_13]) s := by
  unfold s_l5With_j2 at h
  obtain ⟨h1, h2, h4, h5, h6⟩ := hs
  refine .nbk ?_
  refine .nsq ?_
  refine run_reg ?_
  refine e_end ?_
  refine g_v1 (t := 6) (u := (.int .i64 i_29)) (.int .i64 i_29) h6 rfl rfl ?_
  refine g_v1 (t := 15) (u := (.int .i64 i_29)) (.int .i64 (w64 (i_29 + 1))) rfl rfl rfl ?_
  refine g_v1 (t := 16) (u := (.int .i64 (w64 (i_29 + 1)))) (.int .i64 (w64 (i_29 + 1))) rfl rfl rfl ?_
  refine g_end ?_
  refine e_end ?_
  refine renew [(1, (Enc.enc (list_2 : List Int))), (2, (.ref (.bx 2) 0 [] (.agg [(Enc.enc (d_1.1 : List (List Int))), (Enc.enc (d_1.2 : List (Int × Int)))]))), (4, (.sl .nl (Enc.shp Int) 0 [])), (5, (encO (.at 5 []) (.of (out_78 : List Int)))), (6, (.int .i64 (w64 (i_29 + 1))))] ⟨h1, h2, h4, h5, rfl⟩ ?_
  rintro s ⟨h1, h2, h4, h5, h6⟩
  refine .nlp ?_
  exact Hc1 out_78 (w64 (i_29 + 1)) _ ⟨h1, h2, h4, h5, h6⟩ h
def s_l5With_l1 (F : Nat) (list_2 : (List Int)) (d_1 : ((List (List Int)) × (List (Int × Int)))) (out_28 : (List Int)) (i_29 : Int) (c1 : (List Int) → Int → Option (List Int)) : Nat → Bool → Int → Option (List Int)
  | 0, _, _ => none
  | k + 1, all_61, k_62 =>
    bif decide (k_62 < (list_2.length : Int)) then
      bif all_61 then
        (idx d_1.1 i_29).bind fun e_74 =>
        (idx list_2 k_62).bind fun e_75 =>
        (s_l1Has F e_74 e_75).bind fun r_76 =>
        s_l5With_j1 F list_2 d_1 out_28 i_29 k_62 c1 (s_l5With_l1 F list_2 d_1 out_28 i_29 c1 k) r_76
      else
        s_l5With_j1 F list_2 d_1 out_28 i_29 k_62 c1 (s_l5With_l1 F list_2 d_1 out_28 i_29 c1 k) false
    else
      bif all_61 then
        (appL out_28 [i_29]).bind fun ap_79 =>
        s_l5With_j2 F list_2 d_1 i_29 c1 ap_79
      else
        s_l5With_j2 F list_2 d_1 i_29 c1 out_28
theorem t_f97_l1 (H : H97 D σ F) (list_2 : (List Int)) (d_1 : ((List (List Int)) × (List (Int × Int)))) (out_28 : (List Int)) (i_29 : Int) (c1 : (List Int) → Int → Option (List Int)) (Hc1 : ∀ (out_28 : (List Int)) (i_29 : Int) (s : Nat → V), Facts [(1, (Enc.enc (list_2 : List Int))), (2, (.ref (.bx 2) 0 [] (.agg [(Enc.enc (d_1.1 : List (List Int))), (Enc.enc (d_1.2 : List (Int × Int)))]))), (4, (.sl .nl (Enc.shp Int) 0 [])), (5, (encO (.at 5 []) (.of (out_28 : List Int)))), (6, (.int .i64 i_29))] s → c1 out_28 i_29 = some r → Run D σ (R97 r) (.run A97_1 [.lp A97_1, .bk 0, .sq A97_13]) s) : ∀ (k : Nat) (all_61 : Bool) (k_62 : Int) (s : Nat → V), Facts [(1, (Enc.enc (list_2 : List Int))), (2, (.ref (.bx 2) 0 [] (.agg [(Enc.enc (d_1.1 : List (List Int))), (Enc.enc (d_1.2 : List (Int × Int)))]))), (4, (.sl .nl (Enc.shp Int) 0 [])), (5, (encO (.at 5 []) (.of (out_28 : List Int)))), (6, (.int .i64 i_29)), (7, (.bool all_61)), (8, (.int .i64 k_62))] s → s_l5With_l1 F list_2 d_1 out_28 i_29 c1 k all_61 k_62 = some r → Run D σ (R97 r) (.run A97_6 [.lp A97_6, .bk 2, .sq A97_10, .bk 1, .sq A97_12, .lp A97_1, .bk 0, .sq A97_13]) s := by
  intro k
  induction k with
  | zero => intro all_61 k_62 s _ h; exact nomatch (h : (none : Option _) = some r)
  | succ k ih =>
    intro all_61 k_62 s hs h
    rw [s_l5With_l1] at h
    obtain ⟨h1, h2, h4, h5, h6, h7, h8⟩ := hs
    refine .seq ?_
    refine .seq ?_
    refine run_reg ?_
    refine e_end ?_
    refine g_v1 (t := 8) (u := (.int .i64 k_62)) (.int .i64 k_62) h8 rfl rfl ?_
    refine g_v1 (t := 1) (u := (Enc.enc (list_2 : List Int))) (Enc.enc (list_2 : List Int)) h1 rfl rfl ?_
    refine g_v (.int .i64 (list_2.length : Int)) (ev_len (xs := list_2) rfl) ?_
    refine g_v2 (t1 := 17) (t2 := 19) (u1 := (.int .i64 k_62)) (u2 := (.int .i64 (list_2.length : Int))) (.bool (decide (k_62 < (list_2.length : Int)))) rfl rfl rfl rfl ?_
    refine g_end ?_
    refine e_end ?_
    refine renew [(1, (Enc.enc (list_2 : List Int))), (2, (.ref (.bx 2) 0 [] (.agg [(Enc.enc (d_1.1 : List (List Int))), (Enc.enc (d_1.2 : List (Int × Int)))]))), (4, (.sl .nl (Enc.shp Int) 0 [])), (5, (encO (.at 5 []) (.of (out_28 : List Int)))), (6, (.int .i64 i_29)), (7, (.bool all_61)), (8, (.int .i64 k_62)), (20, (.bool (decide (k_62 < (list_2.length : Int)))))] ⟨h1, h2, h4, h5, h6, h7, h8, rfl⟩ ?_
    rintro s ⟨h1, h2, h4, h5, h6, h7, h8, h20⟩
    refine .nsq ?_
    refine run_cond (t := decide (k_62 < (list_2.length : Int))) h20 h (fun h => ?_) (fun h => ?_)
    · refine .skip ?_
      refine .nsq ?_
      refine .seq ?_
      refine .block ?_
      refine run_reg ?_
      refine e_end ?_
      refine g_v1 (t := 7) (u := (.bool all_61)) (.bool all_61) h7 rfl rfl ?_
      refine g_v1 (t := 23) (u := (.bool all_61)) (.bool all_61) rfl rfl rfl ?_
      refine split_on (c := all_61) h (fun hg2 h => ?_) (fun hg2 h => ?_)
      · refine g_yes (Eq.trans (b := .bool all_61) rfl (congrArg V.bool hg2)) (g_v1 (t := 2) (u := (.ref (.bx 2) 0 [] (.agg [(Enc.enc (d_1.1 : List (List Int))), (Enc.enc (d_1.2 : List (Int × Int)))]))) (.ref (.bx 2) 0 [0] (Enc.enc (d_1.1 : List (List Int)))) h2 rfl rfl ?_)
        refine g_yes (Eq.trans (b := .bool all_61) rfl (congrArg V.bool hg2)) (g_v1 (t := 25) (u := (.ref (.bx 2) 0 [0] (Enc.enc (d_1.1 : List (List Int))))) (Enc.enc (d_1.1 : List (List Int))) rfl rfl rfl ?_)
        refine g_yes (Eq.trans (b := .bool all_61) rfl (congrArg V.bool hg2)) (g_v1 (t := 6) (u := (.int .i64 i_29)) (.int .i64 i_29) h6 rfl rfl ?_)
        obtain ⟨e_74, E_e_74, h⟩ := bind_some h
        refine g_yes (Eq.trans (b := .bool all_61) rfl (congrArg V.bool hg2)) (g_v (.ref .sh 0 [] (Enc.enc (e_74 : List Int))) (ev_idx (t := .sh) (lo := 0) (xs := d_1.1) rfl rfl E_e_74 rfl rfl) ?_)
        refine g_yes (Eq.trans (b := .bool all_61) rfl (congrArg V.bool hg2)) (g_v1 (t := 28) (u := (.ref .sh 0 [] (Enc.enc (e_74 : List Int)))) (Enc.enc (e_74 : List Int)) rfl rfl rfl ?_)
        refine g_yes (Eq.trans (b := .bool all_61) rfl (congrArg V.bool hg2)) (g_v1 (t := 1) (u := (Enc.enc (list_2 : List Int))) (Enc.enc (list_2 : List Int)) h1 rfl rfl ?_)
        refine g_yes (Eq.trans (b := .bool all_61) rfl (congrArg V.bool hg2)) (g_v1 (t := 8) (u := (.int .i64 k_62)) (.int .i64 k_62) h8 rfl rfl ?_)
        obtain ⟨e_75, E_e_75, h⟩ := bind_some h
        refine g_yes (Eq.trans (b := .bool all_61) rfl (congrArg V.bool hg2)) (g_v (.ref .sh 0 [] (.int .i64 e_75)) (ev_idx (t := .sh) (lo := 0) (xs := list_2) rfl rfl E_e_75 rfl rfl) ?_)
        refine g_yes (Eq.trans (b := .bool all_61) rfl (congrArg V.bool hg2)) (g_v1 (t := 32) (u := (.ref .sh 0 [] (.int .i64 e_75))) (.int .i64 e_75) rfl rfl rfl ?_)
        obtain ⟨r_76, E_r_76, h⟩ := bind_some h
        refine g_yes (Eq.trans (b := .bool all_61) rfl (congrArg V.bool hg2)) (g_call (m := 0) (al := false) (r := (Enc.enc (r_76 : Bool))) [Enc.enc (e_74 : (List Int)), Enc.enc (e_75 : Int)] (ta_cons (v := (Enc.enc (e_74 : List Int))) rfl rfl (Enc.erase_enc (e_74 : (List Int))) (ta_cons (v := (.int .i64 e_75)) rfl rfl rfl ta_nil)) (H.c45 _ _ _ E_r_76) H.g45 rfl rfl rfl rfl ?_)
        refine g_v2 (t1 := 24) (t2 := 34) (u1 := (.bool true)) (u2 := (.bool r_76)) (.bool r_76) (Eq.trans (b := .bool all_61) rfl (congrArg V.bool hg2)) rfl rfl rfl ?_
        refine g_v1 (t := 35) (u := (.bool r_76)) (.bool r_76) rfl rfl rfl ?_
        refine g_end ?_
        refine e_end ?_
        refine renew [(1, (Enc.enc (list_2 : List Int))), (2, (.ref (.bx 2) 0 [] (.agg [(Enc.enc (d_1.1 : List (List Int))), (Enc.enc (d_1.2 : List (Int × Int)))]))), (4, (.sl .nl (Enc.shp Int) 0 [])), (5, (encO (.at 5 []) (.of (out_28 : List Int)))), (6, (.int .i64 i_29)), (7, (.bool r_76)), (8, (.int .i64 k_62))] ⟨h1, h2, h4, h5, h6, rfl, h8⟩ ?_
        rintro s ⟨h1, h2, h4, h5, h6, h7, h8⟩
        exact t_f97_j1 H list_2 d_1 out_28 i_29 k_62 c1 Hc1 (s_l5With_l1 F list_2 d_1 out_28 i_29 c1 k) ih r_76 _ ⟨h1, h2, h4, h5, h6, h7, h8⟩ h
      · refine g_no (Eq.trans (b := .bool all_61) rfl (congrArg V.bool hg2)) ?_
        refine g_no (Eq.trans (b := .bool all_61) rfl (congrArg V.bool hg2)) ?_
        refine g_no (Eq.trans (b := .bool all_61) rfl (congrArg V.bool hg2)) ?_
        refine g_no (Eq.trans (b := .bool all_61) rfl (congrArg V.bool hg2)) ?_
        refine g_no (Eq.trans (b := .bool all_61) rfl (congrArg V.bool hg2)) ?_
        refine g_no (Eq.trans (b := .bool all_61) rfl (congrArg V.bool hg2)) ?_
        refine g_no (Eq.trans (b := .bool all_61) rfl (congrArg V.bool hg2)) ?_
        refine g_no (Eq.trans (b := .bool all_61) rfl (congrArg V.bool hg2)) ?_
        refine g_no (Eq.trans (b := .bool all_61) rfl (congrArg V.bool hg2)) ?_
        refine g_no (Eq.trans (b := .bool all_61) rfl (congrArg V.bool hg2)) ?_
        refine g_v2 (t1 := 24) (t2 := 34) (u1 := (.bool false)) (u2 := (.tup [])) (.bool false) (Eq.trans (b := .bool all_61) rfl (congrArg V.bool hg2)) rfl rfl rfl ?_
        refine g_v1 (t := 35) (u := (.bool false)) (.bool false) rfl rfl rfl ?_
        refine g_end ?_
        refine e_end ?_
        refine renew [(1, (Enc.enc (list_2 : List Int))), (2, (.ref (.bx 2) 0 [] (.agg [(Enc.enc (d_1.1 : List (List Int))), (Enc.enc (d_1.2 : List (Int × Int)))]))), (4, (.sl .nl (Enc.shp Int) 0 [])), (5, (encO (.at 5 []) (.of (out_28 : List Int)))), (6, (.int .i64 i_29)), (7, (.bool false)), (8, (.int .i64 k_62))] ⟨h1, h2, h4, h5, h6, rfl, h8⟩ ?_
        rintro s ⟨h1, h2, h4, h5, h6, h7, h8⟩
        exact t_f97_j1 H list_2 d_1 out_28 i_29 k_62 c1 Hc1 (s_l5With_l1 F list_2 d_1 out_28 i_29 c1 k) ih false _ ⟨h1, h2, h4, h5, h6, h7, h8⟩ h
    · refine .exit ?_
      refine .esq ?_
      refine .elp ?_
      refine .ebk ?_
      refine .nsq ?_
      refine .seq ?_
      refine run_reg ?_
      refine e_end ?_
      refine g_v1 (t := 7) (u := (.bool all_61)) (.bool all_61) h7 rfl rfl ?_
      refine g_end ?_
      refine e_end ?_
      refine renew [(1, (Enc.enc (list_2 : List Int))), (2, (.ref (.bx 2) 0 [] (.agg [(Enc.enc (d_1.1 : List (List Int))), (Enc.enc (d_1.2 : List (Int × Int)))]))), (4, (.sl .nl (Enc.shp Int) 0 [])), (5, (encO (.at 5 []) (.of (out_28 : List Int)))), (6, (.int .i64 i_29)), (36, (.bool all_61))] ⟨h1, h2, h4, h5, h6, rfl⟩ ?_
      rintro s ⟨h1, h2, h4, h5, h6, h36⟩
      refine .nsq ?_
      refine run_cond (t := all_61) h36 h (fun h => ?_) (fun h => ?_)
      · refine run_reg ?_
        refine e_clr ?_
        refine e_end ?_
        refine g_v1 (t := 5) (u := (encO (.at 5 []) (.of (out_28 : List Int)))) (encO (.at 5 []) (.of (out_28 : List Int))) (keep_clear (s := s) (pk := [39, 40]) h5 rfl (map_encO (r := 5) (p := []) rfl rfl)) rfl rfl ?_
        refine g_v1 (t := 6) (u := (.int .i64 i_29)) (.int .i64 i_29) (keep_clear (s := s) (pk := [39, 40]) h6 rfl rfl) rfl rfl ?_
        refine g_litL [(38, (.int .i64 i_29))] [Enc.enc (i_29 : Int)] rfl rfl rfl (gone_clear (s := s) (pk := [39, 40]) (t := 39) rfl) ?_
        obtain ⟨ap_79, E_ap_79, h⟩ := bind_some h
        refine g_app (q := 5) (p := []) (o := (.of (out_28 : List Int))) (ys := ([i_29] : List Int)) (t2 := (.at 39 [])) (lo2 := 0) rfl rfl rfl (gone_clear (s := s) (pk := [39, 40]) (t := 40) rfl) (appN_L (o := (.of (out_28 : List Int))) E_ap_79 trivial) (fun s_20 ha_20 => ?_)
        refine g_v1 (t := 40) (u := (encO (.at 40 []) (.of (ap_79 : List Int)))) (encO (.at 40 []) (.of (ap_79 : List Int))) rfl rfl rfl ?_
        refine g_end ?_
        refine e_home (r := 40) (x := 5) (v := (encO (.at 40 []) (.of (ap_79 : List Int)))) (by exact rfl) rfl (fun s_21 hg_21 => ?_)
        refine e_end ?_
        refine renew [(1, (Enc.enc (list_2 : List Int))), (2, (.ref (.bx 2) 0 [] (.agg [(Enc.enc (d_1.1 : List (List Int))), (Enc.enc (d_1.2 : List (Int × Int)))]))), (4, (.sl .nl (Enc.shp Int) 0 [])), (5, (encO (.at 5 []) (.of (ap_79 : List Int)))), (6, (.int .i64 i_29))] ⟨(hg_21 1 (Enc.enc (list_2 : List Int)) (Enc.enc (list_2 : List Int)) (show s_20 1 = (Enc.enc (list_2 : List Int)) from keep_app ha_20 (keep_clear (s := s) (pk := [39, 40]) h1 rfl (Enc.map_enc _ (list_2 : List Int))) (Enc.map_enc _ (list_2 : List Int))) (Enc.map_enc _ (list_2 : List Int))), (hg_21 2 (.ref (.bx 2) 0 [] (.agg [(Enc.enc (d_1.1 : List (List Int))), (Enc.enc (d_1.2 : List (Int × Int)))])) (.ref (.bx 2) 0 [] (.agg [(Enc.enc (d_1.1 : List (List Int))), (Enc.enc (d_1.2 : List (Int × Int)))])) (show s_20 2 = (.ref (.bx 2) 0 [] (.agg [(Enc.enc (d_1.1 : List (List Int))), (Enc.enc (d_1.2 : List (Int × Int)))])) from keep_app ha_20 (keep_clear (s := s) (pk := [39, 40]) h2 rfl (map_bx rfl (map_agg (maps_cons (Enc.map_enc _ (d_1.1 : List (List Int))) (maps_cons (Enc.map_enc _ (d_1.2 : List (Int × Int))) maps_nil))))) (map_bx rfl (map_agg (maps_cons (Enc.map_enc _ (d_1.1 : List (List Int))) (maps_cons (Enc.map_enc _ (d_1.2 : List (Int × Int))) maps_nil))))) (map_bx rfl (map_agg (maps_cons (Enc.map_enc _ (d_1.1 : List (List Int))) (maps_cons (Enc.map_enc _ (d_1.2 : List (Int × Int))) maps_nil))))), (hg_21 4 (.sl .nl (Enc.shp Int) 0 []) (.sl .nl (Enc.shp Int) 0 []) (show s_20 4 = (.sl .nl (Enc.shp Int) 0 []) from keep_app ha_20 (keep_clear (s := s) (pk := [39, 40]) h4 rfl rfl) rfl) rfl), (hg_21 5 (encO (.at 40 []) (.of (ap_79 : List Int))) (encO (.at 5 []) (.of (ap_79 : List Int))) rfl (map_encO (r := 40) (p := []) rfl rfl)), (hg_21 6 (.int .i64 i_29) (.int .i64 i_29) (show s_20 6 = (.int .i64 i_29) from keep_app ha_20 (keep_clear (s := s) (pk := [39, 40]) h6 rfl rfl) rfl) rfl)⟩ ?_
        rintro s ⟨h1, h2, h4, h5, h6⟩
        exact t_f97_j2 H list_2 d_1 i_29 c1 Hc1 ap_79 _ ⟨h1, h2, h4, h5, h6⟩ h
      · refine .skip ?_
        exact t_f97_j2 H list_2 d_1 i_29 c1 Hc1 out_28 _ ⟨h1, h2, h4, h5, h6⟩ h
def s_l5With_l2 (F : Nat) (list_2 : (List Int)) (d_1 : ((List (List Int)) × (List (Int × Int))))  : Nat → (List Int) → Int → Option (List Int)
  | 0, _, _ => none
  | k + 1, out_28, i_29 =>
    bif decide (i_29 < (d_1.1.length : Int)) then
      s_l5With_l1 F list_2 d_1 out_28 i_29 (s_l5With_l2 F list_2 d_1 k) F true 0
    else
      some out_28
theorem t_f97_l2 (H : H97 D σ F) (list_2 : (List Int)) (d_1 : ((List (List Int)) × (List (Int × Int))))  : ∀ (k : Nat) (out_28 : (List Int)) (i_29 : Int) (s : Nat → V), Facts [(1, (Enc.enc (list_2 : List Int))), (2, (.ref (.bx 2) 0 [] (.agg [(Enc.enc (d_1.1 : List (List Int))), (Enc.enc (d_1.2 : List (Int × Int)))]))), (4, (.sl .nl (Enc.shp Int) 0 [])), (5, (encO (.at 5 []) (.of (out_28 : List Int)))), (6, (.int .i64 i_29))] s → s_l5With_l2 F list_2 d_1 k out_28 i_29 = some r → Run D σ (R97 r) (.run A97_1 [.lp A97_1, .bk 0, .sq A97_13]) s := by
  intro k
  induction k with
  | zero => intro out_28 i_29 s _ h; exact nomatch (h : (none : Option _) = some r)
  | succ k ih =>
    intro out_28 i_29 s hs h
    rw [s_l5With_l2] at h
    obtain ⟨h1, h2, h4, h5, h6⟩ := hs
    refine .seq ?_
    refine .seq ?_
    refine run_reg ?_
    refine e_end ?_
    refine g_v1 (t := 6) (u := (.int .i64 i_29)) (.int .i64 i_29) h6 rfl rfl ?_
    refine g_v1 (t := 2) (u := (.ref (.bx 2) 0 [] (.agg [(Enc.enc (d_1.1 : List (List Int))), (Enc.enc (d_1.2 : List (Int × Int)))]))) (.ref (.bx 2) 0 [0] (Enc.enc (d_1.1 : List (List Int)))) h2 rfl rfl ?_
    refine g_v1 (t := 11) (u := (.ref (.bx 2) 0 [0] (Enc.enc (d_1.1 : List (List Int))))) (Enc.enc (d_1.1 : List (List Int))) rfl rfl rfl ?_
    refine g_v (.int .i64 (d_1.1.length : Int)) (ev_len (xs := d_1.1) rfl) ?_
    refine g_v2 (t1 := 10) (t2 := 13) (u1 := (.int .i64 i_29)) (u2 := (.int .i64 (d_1.1.length : Int))) (.bool (decide (i_29 < (d_1.1.length : Int)))) rfl rfl rfl rfl ?_
    refine g_end ?_
    refine e_end ?_
    refine renew [(1, (Enc.enc (list_2 : List Int))), (2, (.ref (.bx 2) 0 [] (.agg [(Enc.enc (d_1.1 : List (List Int))), (Enc.enc (d_1.2 : List (Int × Int)))]))), (4, (.sl .nl (Enc.shp Int) 0 [])), (5, (encO (.at 5 []) (.of (out_28 : List Int)))), (6, (.int .i64 i_29)), (14, (.bool (decide (i_29 < (d_1.1.length : Int)))))] ⟨h1, h2, h4, h5, h6, rfl⟩ ?_
    rintro s ⟨h1, h2, h4, h5, h6, h14⟩
    refine .nsq ?_
    refine run_cond (t := decide (i_29 < (d_1.1.length : Int))) h14 h (fun h => ?_) (fun h => ?_)
    · refine .skip ?_
      refine .nsq ?_
      refine .seq ?_
      refine .block ?_
      refine .seq ?_
      refine run_reg ?_
      refine e_end ?_
      refine g_v0 (.bool true) rfl rfl ?_
      refine g_end ?_
      refine e_end ?_
      refine renew [(1, (Enc.enc (list_2 : List Int))), (2, (.ref (.bx 2) 0 [] (.agg [(Enc.enc (d_1.1 : List (List Int))), (Enc.enc (d_1.2 : List (Int × Int)))]))), (4, (.sl .nl (Enc.shp Int) 0 [])), (5, (encO (.at 5 []) (.of (out_28 : List Int)))), (6, (.int .i64 i_29)), (7, (.bool true))] ⟨h1, h2, h4, h5, h6, rfl⟩ ?_
      rintro s ⟨h1, h2, h4, h5, h6, h7⟩
      refine .nsq ?_
      refine .seq ?_
      refine .seq ?_
      refine run_reg ?_
      refine e_end ?_
      refine g_v0 (.int .i64 0) rfl rfl ?_
      refine g_end ?_
      refine e_end ?_
      refine renew [(1, (Enc.enc (list_2 : List Int))), (2, (.ref (.bx 2) 0 [] (.agg [(Enc.enc (d_1.1 : List (List Int))), (Enc.enc (d_1.2 : List (Int × Int)))]))), (4, (.sl .nl (Enc.shp Int) 0 [])), (5, (encO (.at 5 []) (.of (out_28 : List Int)))), (6, (.int .i64 i_29)), (7, (.bool true)), (8, (.int .i64 0))] ⟨h1, h2, h4, h5, h6, h7, rfl⟩ ?_
      rintro s ⟨h1, h2, h4, h5, h6, h7, h8⟩
      refine .nsq ?_
      refine .block ?_
      refine .loop ?_
      exact t_f97_l1 H list_2 d_1 out_28 i_29 (s_l5With_l2 F list_2 d_1 k) ih F true 0 _ ⟨h1, h2, h4, h5, h6, h7, h8⟩ h
    · refine .exit ?_
      refine .esq ?_
      refine .elp ?_
      refine .ebk ?_
      refine .nsq ?_
      refine .seq ?_
      refine run_reg ?_
      refine e_end ?_
      refine g_v1 (t := 5) (u := (encO (.at 5 []) (.of (out_28 : List Int)))) (encO (.at 5 []) (.of (out_28 : List Int))) h5 rfl rfl ?_
      refine g_v1 (t := 41) (u := (encO (.at 5 []) (.of (out_28 : List Int)))) (encO (.at 5 []) (.of (out_28 : List Int))) rfl rfl rfl ?_
      refine g_end ?_
      refine e_home (r := 5) (x := 4) (v := (encO (.at 5 []) (.of (out_28 : List Int)))) (by exact rfl) rfl (fun s_22 hg_22 => ?_)
      refine e_end ?_
      refine renew [(4, (encO (.at 4 []) (.of (out_28 : List Int))))] (hg_22 4 (encO (.at 5 []) (.of (out_28 : List Int))) (encO (.at 4 []) (.of (out_28 : List Int))) rfl (map_encO (r := 5) (p := []) rfl rfl)) ?_
      rintro s h4
      refine .nsq ?_
      refine .ret ?_
      have hr := Option.some.inj h
      subst hr
      exact rrA (res_tmp h4) (fin_retF (fin_own (o := .of out_28)) (mine_own rfl))
def s_l5With (F : Nat) (d_1 : ((List (List Int)) × (List (Int × Int)))) (list_2 : (List Int)) : Option (List Int) :=
  s_l5With_l2 F list_2 d_1 F [] 0
theorem t97 (H : H97 D σ F) (d_1 : ((List (List Int)) × (List (Int × Int)))) (list_2 : (List Int)) (s : Nat → V) (hs : Facts [(0, (.agg [(Enc.enc (d_1.1 : List (List Int))), (Enc.enc (d_1.2 : List (Int × Int)))])), (1, (Enc.enc (list_2 : List Int)))] s) (h : s_l5With F d_1 list_2 = some r) : Run D σ (R97 r) (.run A97 []) s := by
  unfold s_l5With at h
  obtain ⟨h0, h1⟩ := hs
  refine .seq ?_
  refine run_reg ?_
  refine e_clr ?_
  refine e_end ?_
  refine g_box (.agg [(Enc.enc (d_1.1 : List (List Int))), (Enc.enc (d_1.2 : List (Int × Int)))]) (rd_of (keep_clear (s := s) (pk := [2]) h0 rfl (map_agg (maps_cons (Enc.map_enc _ (d_1.1 : List (List Int))) (maps_cons (Enc.map_enc _ (d_1.2 : List (Int × Int))) maps_nil)))) rfl) (gone_clear (s := s) (pk := [2]) (t := 2) rfl) rfl ?_
  refine g_v0 (.sl .nl (Enc.shp Int) 0 []) rfl rfl ?_
  refine g_end ?_
  refine e_end ?_
  refine renew [(1, (Enc.enc (list_2 : List Int))), (2, (.ref (.bx 2) 0 [] (.agg [(Enc.enc (d_1.1 : List (List Int))), (Enc.enc (d_1.2 : List (Int × Int)))]))), (4, (.sl .nl (Enc.shp Int) 0 []))] ⟨(keep_clear (s := s) (pk := [2]) h1 rfl (Enc.map_enc _ (list_2 : List Int))), rfl, rfl⟩ ?_
  rintro s ⟨h1, h2, h4⟩
  refine .nsq ?_
  refine .seq ?_
  refine run_reg ?_
  refine e_clr ?_
  refine e_end ?_
  refine g_litL [] [] trivial rfl rfl (gone_clear (s := s) (pk := [9]) (t := 9) rfl) ?_
  refine g_v1 (t := 9) (u := (encO (.at 9 []) (.of ([] : List Int)))) (encO (.at 9 []) (.of ([] : List Int))) rfl rfl rfl ?_
  refine g_end ?_
  refine e_home (r := 9) (x := 5) (v := (encO (.at 9 []) (.of ([] : List Int)))) (by exact rfl) rfl (fun s_3 hg_3 => ?_)
  refine e_end ?_
  refine renew [(1, (Enc.enc (list_2 : List Int))), (2, (.ref (.bx 2) 0 [] (.agg [(Enc.enc (d_1.1 : List (List Int))), (Enc.enc (d_1.2 : List (Int × Int)))]))), (4, (.sl .nl (Enc.shp Int) 0 [])), (5, (encO (.at 5 []) (.of ([] : List Int))))] ⟨(hg_3 1 (Enc.enc (list_2 : List Int)) (Enc.enc (list_2 : List Int)) (keep_clear (s := s) (pk := [9]) h1 rfl (Enc.map_enc _ (list_2 : List Int))) (Enc.map_enc _ (list_2 : List Int))), (hg_3 2 (.ref (.bx 2) 0 [] (.agg [(Enc.enc (d_1.1 : List (List Int))), (Enc.enc (d_1.2 : List (Int × Int)))])) (.ref (.bx 2) 0 [] (.agg [(Enc.enc (d_1.1 : List (List Int))), (Enc.enc (d_1.2 : List (Int × Int)))])) (keep_clear (s := s) (pk := [9]) h2 rfl (map_bx rfl (map_agg (maps_cons (Enc.map_enc _ (d_1.1 : List (List Int))) (maps_cons (Enc.map_enc _ (d_1.2 : List (Int × Int))) maps_nil))))) (map_bx rfl (map_agg (maps_cons (Enc.map_enc _ (d_1.1 : List (List Int))) (maps_cons (Enc.map_enc _ (d_1.2 : List (Int × Int))) maps_nil))))), (hg_3 4 (.sl .nl (Enc.shp Int) 0 []) (.sl .nl (Enc.shp Int) 0 []) (keep_clear (s := s) (pk := [9]) h4 rfl rfl) rfl), (hg_3 5 (encO (.at 9 []) (.of ([] : List Int))) (encO (.at 5 []) (.of ([] : List Int))) rfl (map_encO (r := 9) (p := []) rfl rfl))⟩ ?_
  rintro s ⟨h1, h2, h4, h5⟩
  refine .nsq ?_
  refine .seq ?_
  refine .seq ?_
  refine run_reg ?_
  refine e_end ?_
  refine g_v0 (.int .i64 0) rfl rfl ?_
  refine g_end ?_
  refine e_end ?_
  refine renew [(1, (Enc.enc (list_2 : List Int))), (2, (.ref (.bx 2) 0 [] (.agg [(Enc.enc (d_1.1 : List (List Int))), (Enc.enc (d_1.2 : List (Int × Int)))]))), (4, (.sl .nl (Enc.shp Int) 0 [])), (5, (encO (.at 5 []) (.of ([] : List Int)))), (6, (.int .i64 0))] ⟨h1, h2, h4, h5, rfl⟩ ?_
  rintro s ⟨h1, h2, h4, h5, h6⟩
  refine .nsq ?_
  refine .block ?_
  refine .loop ?_
  exact t_f97_l2 H list_2 d_1 F [] 0 _ ⟨h1, h2, h4, h5, h6⟩ h
end
def e97 (F : Nat) : Ent := ⟨97, da (fun (x : (((List (List Int)) × (List (Int × Int))) × (List Int) × Unit)) => s_l5With F x.1 x.2.1) (fun (r : (List Int)) => (Enc.enc (r : (List Int)))), 0, false, selF []⟩
theorem p97 {F : Nat} {x0 : ((List (List Int)) × (List (Int × Int)))} {x1 : (List Int)} {r : (List Int)} (h : s_l5With F x0 x1 = some r) : (e97 F).den [Enc.enc x0, Enc.enc x1] = some (Enc.enc (r : (List Int))) := da_put (f := fun (x : (((List (List Int)) × (List (Int × Int))) × (List Int) × Unit)) => s_l5With F x.1 x.2.1) (t := fun (r : (List Int)) => (Enc.enc (r : (List Int)))) (x0, x1, ()) h
theorem o97 {D : Den} {σ : Sig} {F : Nat} (hF : Fits2 Try.prog D σ) (H : H97 D σ F) : (e97 F).Ok Try.prog := by
  refine ⟨fun args r h => ?_, ⟨Try.f97, Try.func97, rfl, rfl⟩⟩
  obtain ⟨⟨x0, x1, _⟩, y, rfl, hy, rfl⟩ := da_open h
  exact contract_run hF (by kernel_rfl) Try.func97 rfl c97 (show 2 ≤ Try.f97.ntmps by decide) (t97 H x0 x1 _ ⟨rfl, rfl⟩ hy)
/- loop.example/g01109/spec.l5Good -/
def A57_2 : AC := (AC.cond (O.t 15) AC.skip (AC.exit 0))
def A57_5 : AC := (AC.cond (O.t 31) (AC.seq (AC.reg [] [(I.mk (some 4) none false (X.v (A.mov (O.k (V.bool false)))))] []) AC.ret) AC.skip)
def A57_4 : AC := (AC.seq (AC.reg [] [(I.mk (some 22) none false (X.v (A.mov (O.t 6)))), (I.mk (some 23) none false (X.v (A.len (O.t 22)))), (I.mk (some 24) none false (X.v (A.bin BinOp.eql (O.t 23) (O.k (V.int IntKind.i64 (Int.ofNat 0)))))), (I.mk (some 25) none false (X.v (A.mov (O.t 24)))), (I.mk (some 26) (some (25, false)) false (X.v (A.fld (O.t 3) 1 1))), (I.mk (some 27) (some (25, false)) false (X.v (A.load Sh.p (O.t 26)))), (I.mk (some 28) (some (25, false)) false (X.v (A.mov (O.t 6)))), (I.mk (some 29) (some (25, false)) false (X.call (O.k (V.fn 98 [] [])) [(O.t 27), (O.t 28)])), (I.mk (some 30) (some (25, false)) false (X.v (A.un UnOp.not (O.t 29)))), (I.mk (some 31) none false (X.v (A.pick (O.t 25) (O.k (V.bool true)) (O.t 30))))] []) A57_5)
def A57_6 : AC := (AC.reg [] [(I.mk (some 16) none false (X.v (A.mov (O.t 5)))), (I.mk (some 17) none false (X.v (A.bin BinOp.add (O.t 16) (O.k (V.int IntKind.i64 (Int.ofNat 1)))))), (I.mk (some 5) none false (X.v (A.mov (O.t 17))))] [])
def A57_3 : AC := (AC.seq (AC.block 1 (AC.seq (AC.reg [.clr [20]] [(I.mk (some 18) none false (X.v (A.load (Sh.ag [Sh.p, Sh.p]) (O.t 3)))), (I.mk (some 19) none false (X.v (A.mov (O.t 5)))), (I.mk (some 20) none false (X.lit (V.int IntKind.i64 (Int.ofNat 0)) 1 [(0, 0, (O.t 19))])), (I.mk (some 21) none false (X.call (O.k (V.fn 97 [] [])) [(O.t 18), (O.t 20)])), (I.mk (some 6) none false (X.v (A.mov (O.t 21))))] []) A57_4)) A57_6)
def A57_1 : AC := (AC.seq (AC.seq (AC.reg [] [(I.mk (some 12) none false (X.v (A.mov (O.t 5)))), (I.mk (some 13) none false (X.v (A.fld (O.t 2) 0 0))), (I.mk (some 14) none false (X.v (A.load Sh.s (O.t 13)))), (I.mk (some 15) none false (X.v (A.bin BinOp.lss (O.t 12) (O.t 14))))] []) A57_2) A57_3)
def A57_10 : AC := (AC.cond (O.t 36) AC.skip (AC.exit 2))
def A57_12 : AC := (AC.cond (O.t 55) (AC.seq (AC.reg [] [(I.mk (some 4) none false (X.v (A.mov (O.k (V.bool false)))))] []) AC.ret) AC.skip)
def A57_13 : AC := (AC.reg [] [(I.mk (some 37) none false (X.v (A.mov (O.t 7)))), (I.mk (some 38) none false (X.v (A.bin BinOp.add (O.t 37) (O.k (V.int IntKind.i64 (Int.ofNat 1)))))), (I.mk (some 7) none false (X.v (A.mov (O.t 38))))] [])
def A57_11 : AC := (AC.seq (AC.block 3 (AC.seq (AC.reg [.clr [52]] [(I.mk (some 39) none false (X.v (A.load (Sh.ag [Sh.p, Sh.p]) (O.t 3)))), (I.mk (some 40) none false (X.v (A.fld (O.t 2) 1 1))), (I.mk (some 41) none false (X.v (A.load Sh.p (O.t 40)))), (I.mk (some 42) none false (X.v (A.mov (O.t 7)))), (I.mk (some 43) none false (X.v (A.idx (O.t 41) (O.t 42) 2))), (I.mk (some 44) none false (X.v (A.idxA (O.t 43) (O.k (V.int IntKind.i64 (Int.ofNat 0))) 2 1))), (I.mk (some 45) none false (X.v (A.load Sh.s (O.t 44)))), (I.mk (some 46) none false (X.v (A.fld (O.t 2) 1 1))), (I.mk (some 47) none false (X.v (A.load Sh.p (O.t 46)))), (I.mk (some 48) none false (X.v (A.mov (O.t 7)))), (I.mk (some 49) none false (X.v (A.idx (O.t 47) (O.t 48) 2))), (I.mk (some 50) none false (X.v (A.idxA (O.t 49) (O.k (V.int IntKind.i64 (Int.ofNat 1))) 2 1))), (I.mk (some 51) none false (X.v (A.load Sh.s (O.t 50)))), (I.mk (some 52) none false (X.lit (V.int IntKind.i64 (Int.ofNat 0)) 2 [(0, 0, (O.t 45)), (1, 1, (O.t 51))])), (I.mk (some 53) none false (X.call (O.k (V.fn 97 [] [])) [(O.t 39), (O.t 52)])), (I.mk (some 54) none false (X.v (A.len (O.t 53)))), (I.mk (some 55) none false (X.v (A.bin BinOp.eql (O.t 54) (O.k (V.int IntKind.i64 (Int.ofNat 0))))))] []) A57_12)) A57_13)
def A57_9 : AC := (AC.seq (AC.seq (AC.reg [] [(I.mk (some 32) none false (X.v (A.mov (O.t 7)))), (I.mk (some 33) none false (X.v (A.fld (O.t 2) 1 1))), (I.mk (some 34) none false (X.v (A.load Sh.p (O.t 33)))), (I.mk (some 35) none false (X.v (A.len (O.t 34)))), (I.mk (some 36) none false (X.v (A.bin BinOp.lss (O.t 32) (O.t 35))))] []) A57_10) A57_11)
def A57_8 : AC := (AC.block 2 (AC.loop A57_9))
def A57_14 : AC := (AC.seq (AC.reg [] [(I.mk (some 4) none false (X.v (A.mov (O.k (V.bool true)))))] []) AC.ret)
def A57_7 : AC := (AC.seq (AC.seq (AC.reg [] [(I.mk (some 7) none false (X.v (A.mov (O.k (V.int IntKind.i64 (Int.ofNat 0))))))] []) A57_8) A57_14)
def A57_16 : AC := (AC.cond (O.t 11) (AC.seq (AC.reg [] [(I.mk (some 4) none false (X.v (A.mov (O.k (V.bool false)))))] []) AC.ret) AC.skip)
def A57_18 : AC := (AC.block 0 (AC.loop A57_1))
def A57_17 : AC := (AC.seq (AC.seq (AC.reg [] [(I.mk (some 5) none false (X.v (A.mov (O.k (V.int IntKind.i64 (Int.ofNat 0))))))] []) A57_18) A57_7)
def A57_15 : AC := (AC.seq (AC.seq (AC.reg [] [(I.mk (some 8) none false (X.v (A.load (Sh.ag [Sh.s, Sh.p]) (O.t 2)))), (I.mk (some 9) none false (X.v (A.load (Sh.ag [Sh.p, Sh.p]) (O.t 3)))), (I.mk (some 10) none false (X.call (O.k (V.fn 96 [] [])) [(O.t 8), (O.t 9)])), (I.mk (some 11) none false (X.v (A.un UnOp.not (O.t 10))))] []) A57_16) A57_17)
def A57 : AC := (AC.seq (AC.reg [.clr [2, 3]] [(I.mk (some 2) none false (X.box (O.t 0))), (I.mk (some 3) none false (X.box (O.t 1))), (I.mk (some 4) none false (X.v (A.mov (O.k (V.bool false)))))] []) A57_15)
def an57 : List An := [{ id := 0, pre := [.clr [2, 3]], ep := [], lin := [], sp := [] }, { id := 6, pre := [.clr [20]], ep := [], lin := [], sp := [] }, { id := 12, pre := [.clr [52]], ep := [], lin := [], sp := [] }]
theorem c57 : cC Try.prog Try.f57.ntmps an57 (Try.f57.body.getD .skip) = some A57 := by kernel_rfl
structure H57 (D : Den) (σ : Sig) (F : Nat) : Prop where
  c96 : ∀ (x0 : (Int × (List (Int × Int)))) (x1 : ((List (List Int)) × (List (Int × Int)))) r, s_l5Shape F x0 x1 = some r → D 96 [Enc.enc x0, Enc.enc x1] = some (Enc.enc (r : Bool))
  g96 : σ 96 = some (0, false)
  c97 : ∀ (x0 : ((List (List Int)) × (List (Int × Int)))) (x1 : (List Int)) r, s_l5With F x0 x1 = some r → D 97 [Enc.enc x0, Enc.enc x1] = some (Enc.enc (r : (List Int)))
  g97 : σ 97 = some (0, false)
  c98 : ∀ (x0 : (List (Int × Int))) (x1 : (List Int)) r, s_l5Joined F x0 x1 = some r → D 98 [Enc.enc x0, Enc.enc x1] = some (Enc.enc (r : Bool))
  g98 : σ 98 = some (0, false)
abbrev R57 (r : Bool) : (Nat → V) → Prop := RR Try.prog [.tmp 4] 0 false (Enc.enc (r : Bool))
section
variable {D : Den} {σ : Sig} {F : Nat} {r : Bool}
def s_l5Good_j1 (F : Nat) (g_1 : (Int × (List (Int × Int)))) (d_2 : ((List (List Int)) × (List (Int × Int)))) (x_8 : Int) (c1 : Int → Option Bool) (t31_15 : Bool) : Option Bool :=
  bif t31_15 then
    some false
  else
    c1 (w64 (x_8 + 1))
theorem t_f57_j1 (H : H57 D σ F) (g_1 : (Int × (List (Int × Int)))) (d_2 : ((List (List Int)) × (List (Int × Int)))) (x_8 : Int) (c1 : Int → Option Bool) (Hc1 : ∀ (x_8 : Int) (s : Nat → V), Facts [(2, (.ref (.bx 2) 0 [] (.agg [(.int .i64 g_1.1), (Enc.enc (g_1.2 : List (Int × Int)))]))), (3, (.ref (.bx 3) 0 [] (.agg [(Enc.enc (d_2.1 : List (List Int))), (Enc.enc (d_2.2 : List (Int × Int)))]))), (4, (.bool false)), (5, (.int .i64 x_8))] s → c1 x_8 = some r → Run D σ (R57 r) (.run A57_1 [.lp A57_1, .bk 0, .sq A57_7]) s) (t31_15 : Bool) (s : Nat → V) (hs : Facts [(2, (.ref (.bx 2) 0 [] (.agg [(.int .i64 g_1.1), (Enc.enc (g_1.2 : List (Int × Int)))]))), (3, (.ref (.bx 3) 0 [] (.agg [(Enc.enc (d_2.1 : List (List Int))), (Enc.enc (d_2.2 : List (Int × Int)))]))), (4, (.bool false)), (5, (.int .i64 x_8)), (31, (.bool t31_15))] s) (h : s_l5Good_j1 F g_1 d_2 x_8 c1 t31_15 = some r) : Run D σ (R57 r) (.nrm [.sq A57_5, .bk 1, .sq A57_6, .lp A57_1, .bk 0, .sq A57_7]) s := by
  unfold s_l5Good_j1 at h
  obtain ⟨h2, h3, h4, h5, h31⟩ := hs
  refine .nsq ?_
  refine run_cond (t := t31_15) h31 h (fun h => ?_) (fun h => ?_)
  · refine .seq ?_
    refine run_reg ?_
    refine e_end ?_
    refine g_v0 (.bool false) rfl rfl ?_
    refine g_end ?_
    refine e_end ?_
    refine renew [(2, (.ref (.bx 2) 0 [] (.agg [(.int .i64 g_1.1), (Enc.enc (g_1.2 : List (Int × Int)))]))), (3, (.ref (.bx 3) 0 [] (.agg [(Enc.enc (d_2.1 : List (List Int))), (Enc.enc (d_2.2 : List (Int × Int)))]))), (4, (.bool false)), (5, (.int .i64 x_8))] ⟨h2, h3, rfl, h5⟩ ?_
    rintro s ⟨h2, h3, h4, h5⟩
    refine .nsq ?_
    refine .ret ?_
    have hr := Option.some.inj h
    subst hr
    exact rrA (res_tmp h4) rfl
  · refine .skip ?_
    refine .nbk ?_
    refine .nsq ?_
    refine run_reg ?_
    refine e_end ?_
    refine g_v1 (t := 5) (u := (.int .i64 x_8)) (.int .i64 x_8) h5 rfl rfl ?_
    refine g_v1 (t := 16) (u := (.int .i64 x_8)) (.int .i64 (w64 (x_8 + 1))) rfl rfl rfl ?_
    refine g_v1 (t := 17) (u := (.int .i64 (w64 (x_8 + 1)))) (.int .i64 (w64 (x_8 + 1))) rfl rfl rfl ?_
    refine g_end ?_
    refine e_end ?_
    refine renew [(2, (.ref (.bx 2) 0 [] (.agg [(.int .i64 g_1.1), (Enc.enc (g_1.2 : List (Int × Int)))]))), (3, (.ref (.bx 3) 0 [] (.agg [(Enc.enc (d_2.1 : List (List Int))), (Enc.enc (d_2.2 : List (Int × Int)))]))), (4, (.bool false)), (5, (.int .i64 (w64 (x_8 + 1))))] ⟨h2, h3, h4, rfl⟩ ?_
    rintro s ⟨h2, h3, h4, h5⟩
    refine .nlp ?_
    exact Hc1 (w64 (x_8 + 1)) _ ⟨h2, h3, h4, h5⟩ h
def s_l5Good_l1 (F : Nat) (g_1 : (Int × (List (Int × Int)))) (d_2 : ((List (List Int)) × (List (Int × Int))))  : Nat → Int → Option Bool
  | 0, _ => none
  | k + 1, i_20 =>
    bif decide (i_20 < (g_1.2.length : Int)) then
      (idx g_1.2 i_20).bind fun e_24 =>
      (idx g_1.2 i_20).bind fun e_25 =>
      (s_l5With F d_2 [e_24.1, e_25.2]).bind fun r_26 =>
      bif ((r_26.length : Int) == 0) then
        some false
      else
        (s_l5Good_l1 F g_1 d_2 k) (w64 (i_20 + 1))
    else
      some true
theorem t_f57_l1 (H : H57 D σ F) (g_1 : (Int × (List (Int × Int)))) (d_2 : ((List (List Int)) × (List (Int × Int))))  : ∀ (k : Nat) (i_20 : Int) (s : Nat → V), Facts [(2, (.ref (.bx 2) 0 [] (.agg [(.int .i64 g_1.1), (Enc.enc (g_1.2 : List (Int × Int)))]))), (3, (.ref (.bx 3) 0 [] (.agg [(Enc.enc (d_2.1 : List (List Int))), (Enc.enc (d_2.2 : List (Int × Int)))]))), (4, (.bool false)), (7, (.int .i64 i_20))] s → s_l5Good_l1 F g_1 d_2 k i_20 = some r → Run D σ (R57 r) (.run A57_9 [.lp A57_9, .bk 2, .sq A57_14]) s := by
  intro k
  induction k with
  | zero => intro i_20 s _ h; exact nomatch (h : (none : Option _) = some r)
  | succ k ih =>
    intro i_20 s hs h
    rw [s_l5Good_l1] at h
    obtain ⟨h2, h3, h4, h7⟩ := hs
    refine .seq ?_
    refine .seq ?_
    refine run_reg ?_
    refine e_end ?_
    refine g_v1 (t := 7) (u := (.int .i64 i_20)) (.int .i64 i_20) h7 rfl rfl ?_
    refine g_v1 (t := 2) (u := (.ref (.bx 2) 0 [] (.agg [(.int .i64 g_1.1), (Enc.enc (g_1.2 : List (Int × Int)))]))) (.ref (.bx 2) 0 [1] (Enc.enc (g_1.2 : List (Int × Int)))) h2 rfl rfl ?_
    refine g_v1 (t := 33) (u := (.ref (.bx 2) 0 [1] (Enc.enc (g_1.2 : List (Int × Int))))) (Enc.enc (g_1.2 : List (Int × Int))) rfl rfl rfl ?_
    refine g_v (.int .i64 (g_1.2.length : Int)) (ev_len (xs := g_1.2) rfl) ?_
    refine g_v2 (t1 := 32) (t2 := 35) (u1 := (.int .i64 i_20)) (u2 := (.int .i64 (g_1.2.length : Int))) (.bool (decide (i_20 < (g_1.2.length : Int)))) rfl rfl rfl rfl ?_
    refine g_end ?_
    refine e_end ?_
    refine renew [(2, (.ref (.bx 2) 0 [] (.agg [(.int .i64 g_1.1), (Enc.enc (g_1.2 : List (Int × Int)))]))), (3, (.ref (.bx 3) 0 [] (.agg [(Enc.enc (d_2.1 : List (List Int))), (Enc.enc (d_2.2 : List (Int × Int)))]))), (4, (.bool false)), (7, (.int .i64 i_20)), (36, (.bool (decide (i_20 < (g_1.2.length : Int)))))] ⟨h2, h3, h4, h7, rfl⟩ ?_
    rintro s ⟨h2, h3, h4, h7, h36⟩
    refine .nsq ?_
    refine run_cond (t := decide (i_20 < (g_1.2.length : Int))) h36 h (fun h => ?_) (fun h => ?_)
    · refine .skip ?_
      refine .nsq ?_
      refine .seq ?_
      refine .block ?_
      refine .seq ?_
      refine run_reg ?_
      refine e_clr ?_
      refine e_end ?_
      refine g_v1 (t := 3) (u := (.ref (.bx 3) 0 [] (.agg [(Enc.enc (d_2.1 : List (List Int))), (Enc.enc (d_2.2 : List (Int × Int)))]))) (.agg [(Enc.enc (d_2.1 : List (List Int))), (Enc.enc (d_2.2 : List (Int × Int)))]) (keep_clear (s := s) (pk := [52]) h3 rfl (map_bx rfl (map_agg (maps_cons (Enc.map_enc _ (d_2.1 : List (List Int))) (maps_cons (Enc.map_enc _ (d_2.2 : List (Int × Int))) maps_nil))))) rfl rfl ?_
      refine g_v1 (t := 2) (u := (.ref (.bx 2) 0 [] (.agg [(.int .i64 g_1.1), (Enc.enc (g_1.2 : List (Int × Int)))]))) (.ref (.bx 2) 0 [1] (Enc.enc (g_1.2 : List (Int × Int)))) (keep_clear (s := s) (pk := [52]) h2 rfl (map_bx rfl (map_agg (maps_cons rfl (maps_cons (Enc.map_enc _ (g_1.2 : List (Int × Int))) maps_nil))))) rfl rfl ?_
      refine g_v1 (t := 40) (u := (.ref (.bx 2) 0 [1] (Enc.enc (g_1.2 : List (Int × Int))))) (Enc.enc (g_1.2 : List (Int × Int))) rfl rfl rfl ?_
      refine g_v1 (t := 7) (u := (.int .i64 i_20)) (.int .i64 i_20) (keep_clear (s := s) (pk := [52]) h7 rfl rfl) rfl rfl ?_
      obtain ⟨e_24, E_e_24, h⟩ := bind_some h
      refine g_v (.ref .sh 0 [] (.agg [(.int .i64 e_24.1), (.int .i64 e_24.2)])) (ev_idx (t := .sh) (lo := 0) (xs := g_1.2) rfl rfl E_e_24 rfl rfl) ?_
      refine g_v1 (t := 43) (u := (.ref .sh 0 [] (.agg [(.int .i64 e_24.1), (.int .i64 e_24.2)]))) (.ref .sh 0 [0] (.int .i64 e_24.1)) rfl rfl rfl ?_
      refine g_v1 (t := 44) (u := (.ref .sh 0 [0] (.int .i64 e_24.1))) (.int .i64 e_24.1) rfl rfl rfl ?_
      refine g_v1 (t := 2) (u := (.ref (.bx 2) 0 [] (.agg [(.int .i64 g_1.1), (Enc.enc (g_1.2 : List (Int × Int)))]))) (.ref (.bx 2) 0 [1] (Enc.enc (g_1.2 : List (Int × Int)))) (keep_clear (s := s) (pk := [52]) h2 rfl (map_bx rfl (map_agg (maps_cons rfl (maps_cons (Enc.map_enc _ (g_1.2 : List (Int × Int))) maps_nil))))) rfl rfl ?_
      refine g_v1 (t := 46) (u := (.ref (.bx 2) 0 [1] (Enc.enc (g_1.2 : List (Int × Int))))) (Enc.enc (g_1.2 : List (Int × Int))) rfl rfl rfl ?_
      refine g_v1 (t := 7) (u := (.int .i64 i_20)) (.int .i64 i_20) (keep_clear (s := s) (pk := [52]) h7 rfl rfl) rfl rfl ?_
      obtain ⟨e_25, E_e_25, h⟩ := bind_some h
      refine g_v (.ref .sh 0 [] (.agg [(.int .i64 e_25.1), (.int .i64 e_25.2)])) (ev_idx (t := .sh) (lo := 0) (xs := g_1.2) rfl rfl E_e_25 rfl rfl) ?_
      refine g_v1 (t := 49) (u := (.ref .sh 0 [] (.agg [(.int .i64 e_25.1), (.int .i64 e_25.2)]))) (.ref .sh 0 [1] (.int .i64 e_25.2)) rfl rfl rfl ?_
      refine g_v1 (t := 50) (u := (.ref .sh 0 [1] (.int .i64 e_25.2))) (.int .i64 e_25.2) rfl rfl rfl ?_
      refine g_litL [(45, (.int .i64 e_24.1)), (51, (.int .i64 e_25.2))] [Enc.enc (e_24.1 : Int), Enc.enc (e_25.2 : Int)] ⟨rfl, rfl⟩ rfl rfl (gone_clear (s := s) (pk := [52]) (t := 52) rfl) ?_
      obtain ⟨r_26, E_r_26, h⟩ := bind_some h
      refine g_call (m := 0) (al := false) (r := (Enc.enc (r_26 : (List Int)))) [Enc.enc (d_2 : ((List (List Int)) × (List (Int × Int)))), Enc.enc ([e_24.1, e_25.2] : (List Int))] (ta_cons (v := (.agg [(Enc.enc (d_2.1 : List (List Int))), (Enc.enc (d_2.2 : List (Int × Int)))])) rfl rfl (Enc.erase_enc (d_2 : ((List (List Int)) × (List (Int × Int))))) (ta_cons (v := (encO (.at 52 []) (.of ([e_24.1, e_25.2] : List Int)))) rfl rfl (erase_encO (o := .of [e_24.1, e_25.2])) ta_nil)) (H.c97 _ _ _ E_r_26) H.g97 rfl rfl rfl rfl ?_
      refine g_v (.int .i64 (r_26.length : Int)) (ev_len (xs := r_26) rfl) ?_
      refine g_v1 (t := 54) (u := (.int .i64 (r_26.length : Int))) (.bool ((r_26.length : Int) == 0)) rfl rfl rfl ?_
      refine g_end ?_
      refine e_end ?_
      refine renew [(2, (.ref (.bx 2) 0 [] (.agg [(.int .i64 g_1.1), (Enc.enc (g_1.2 : List (Int × Int)))]))), (3, (.ref (.bx 3) 0 [] (.agg [(Enc.enc (d_2.1 : List (List Int))), (Enc.enc (d_2.2 : List (Int × Int)))]))), (4, (.bool false)), (7, (.int .i64 i_20)), (55, (.bool ((r_26.length : Int) == 0)))] ⟨(keep_clear (s := s) (pk := [52]) h2 rfl (map_bx rfl (map_agg (maps_cons rfl (maps_cons (Enc.map_enc _ (g_1.2 : List (Int × Int))) maps_nil))))), (keep_clear (s := s) (pk := [52]) h3 rfl (map_bx rfl (map_agg (maps_cons (Enc.map_enc _ (d_2.1 : List (List Int))) (maps_cons (Enc.map_enc _ (d_2.2 : List (Int × Int))) maps_nil))))), (keep_clear (s := s) (pk := [52]) h4 rfl rfl), (keep_clear (s := s) (pk := [52]) h7 rfl rfl), rfl⟩ ?_
      rintro s ⟨h2, h3, h4, h7, h55⟩
      refine .nsq ?_
      refine run_cond (t := ((r_26.length : Int) == 0)) h55 h (fun h => ?_) (fun h => ?_)
      · refine .seq ?_
        refine run_reg ?_
        refine e_end ?_
        refine g_v0 (.bool false) rfl rfl ?_
        refine g_end ?_
        refine e_end ?_
        refine renew [(2, (.ref (.bx 2) 0 [] (.agg [(.int .i64 g_1.1), (Enc.enc (g_1.2 : List (Int × Int)))]))), (3, (.ref (.bx 3) 0 [] (.agg [(Enc.enc (d_2.1 : List (List Int))), (Enc.enc (d_2.2 : List (Int × Int)))]))), (4, (.bool false)), (7, (.int .i64 i_20))] ⟨h2, h3, rfl, h7⟩ ?_
        rintro s ⟨h2, h3, h4, h7⟩
        refine .nsq ?_
        refine .ret ?_
        have hr := Option.some.inj h
        subst hr
        exact rrA (res_tmp h4) rfl
      · refine .skip ?_
        refine .nbk ?_
        refine .nsq ?_
        refine run_reg ?_
        refine e_end ?_
        refine g_v1 (t := 7) (u := (.int .i64 i_20)) (.int .i64 i_20) h7 rfl rfl ?_
        refine g_v1 (t := 37) (u := (.int .i64 i_20)) (.int .i64 (w64 (i_20 + 1))) rfl rfl rfl ?_
        refine g_v1 (t := 38) (u := (.int .i64 (w64 (i_20 + 1)))) (.int .i64 (w64 (i_20 + 1))) rfl rfl rfl ?_
        refine g_end ?_
        refine e_end ?_
        refine renew [(2, (.ref (.bx 2) 0 [] (.agg [(.int .i64 g_1.1), (Enc.enc (g_1.2 : List (Int × Int)))]))), (3, (.ref (.bx 3) 0 [] (.agg [(Enc.enc (d_2.1 : List (List Int))), (Enc.enc (d_2.2 : List (Int × Int)))]))), (4, (.bool false)), (7, (.int .i64 (w64 (i_20 + 1))))] ⟨h2, h3, h4, rfl⟩ ?_
        rintro s ⟨h2, h3, h4, h7⟩
        refine .nlp ?_
        exact ih (w64 (i_20 + 1)) _ ⟨h2, h3, h4, h7⟩ h
    · refine .exit ?_
      refine .esq ?_
      refine .elp ?_
      refine .ebk ?_
      refine .nsq ?_
      refine .seq ?_
      refine run_reg ?_
      refine e_end ?_
      refine g_v0 (.bool true) rfl rfl ?_
      refine g_end ?_
      refine e_end ?_
      refine renew [(4, (.bool true))] rfl ?_
      rintro s h4
      refine .nsq ?_
      refine .ret ?_
      have hr := Option.some.inj h
      subst hr
      exact rrA (res_tmp h4) rfl
def s_l5Good_l2 (F : Nat) (g_1 : (Int × (List (Int × Int)))) (d_2 : ((List (List Int)) × (List (Int × Int))))  : Nat → Int → Option Bool
  | 0, _ => none
  | k + 1, x_8 =>
    bif decide (x_8 < g_1.1) then
      (s_l5With F d_2 [x_8]).bind fun r_13 =>
      bif ((r_13.length : Int) == 0) then
        s_l5Good_j1 F g_1 d_2 x_8 (s_l5Good_l2 F g_1 d_2 k) true
      else
        (s_l5Joined F d_2.2 r_13).bind fun r_16 =>
        s_l5Good_j1 F g_1 d_2 x_8 (s_l5Good_l2 F g_1 d_2 k) (!r_16)
    else
      s_l5Good_l1 F g_1 d_2 F 0
theorem t_f57_l2 (H : H57 D σ F) (g_1 : (Int × (List (Int × Int)))) (d_2 : ((List (List Int)) × (List (Int × Int))))  : ∀ (k : Nat) (x_8 : Int) (s : Nat → V), Facts [(2, (.ref (.bx 2) 0 [] (.agg [(.int .i64 g_1.1), (Enc.enc (g_1.2 : List (Int × Int)))]))), (3, (.ref (.bx 3) 0 [] (.agg [(Enc.enc (d_2.1 : List (List Int))), (Enc.enc (d_2.2 : List (Int × Int)))]))), (4, (.bool false)), (5, (.int .i64 x_8))] s → s_l5Good_l2 F g_1 d_2 k x_8 = some r → Run D σ (R57 r) (.run A57_1 [.lp A57_1, .bk 0, .sq A57_7]) s := by
  intro k
  induction k with
  | zero => intro x_8 s _ h; exact nomatch (h : (none : Option _) = some r)
  | succ k ih =>
    intro x_8 s hs h
    rw [s_l5Good_l2] at h
    obtain ⟨h2, h3, h4, h5⟩ := hs
    refine .seq ?_
    refine .seq ?_
    refine run_reg ?_
    refine e_end ?_
    refine g_v1 (t := 5) (u := (.int .i64 x_8)) (.int .i64 x_8) h5 rfl rfl ?_
    refine g_v1 (t := 2) (u := (.ref (.bx 2) 0 [] (.agg [(.int .i64 g_1.1), (Enc.enc (g_1.2 : List (Int × Int)))]))) (.ref (.bx 2) 0 [0] (.int .i64 g_1.1)) h2 rfl rfl ?_
    refine g_v1 (t := 13) (u := (.ref (.bx 2) 0 [0] (.int .i64 g_1.1))) (.int .i64 g_1.1) rfl rfl rfl ?_
    refine g_v2 (t1 := 12) (t2 := 14) (u1 := (.int .i64 x_8)) (u2 := (.int .i64 g_1.1)) (.bool (decide (x_8 < g_1.1))) rfl rfl rfl rfl ?_
    refine g_end ?_
    refine e_end ?_
    refine renew [(2, (.ref (.bx 2) 0 [] (.agg [(.int .i64 g_1.1), (Enc.enc (g_1.2 : List (Int × Int)))]))), (3, (.ref (.bx 3) 0 [] (.agg [(Enc.enc (d_2.1 : List (List Int))), (Enc.enc (d_2.2 : List (Int × Int)))]))), (4, (.bool false)), (5, (.int .i64 x_8)), (15, (.bool (decide (x_8 < g_1.1))))] ⟨h2, h3, h4, h5, rfl⟩ ?_
    rintro s ⟨h2, h3, h4, h5, h15⟩
    refine .nsq ?_
    refine run_cond (t := decide (x_8 < g_1.1)) h15 h (fun h => ?_) (fun h => ?_)
    · refine .skip ?_
      refine .nsq ?_
      refine .seq ?_
      refine .block ?_
      refine .seq ?_
      refine run_reg ?_
      refine e_clr ?_
      refine e_end ?_
      refine g_v1 (t := 3) (u := (.ref (.bx 3) 0 [] (.agg [(Enc.enc (d_2.1 : List (List Int))), (Enc.enc (d_2.2 : List (Int × Int)))]))) (.agg [(Enc.enc (d_2.1 : List (List Int))), (Enc.enc (d_2.2 : List (Int × Int)))]) (keep_clear (s := s) (pk := [20]) h3 rfl (map_bx rfl (map_agg (maps_cons (Enc.map_enc _ (d_2.1 : List (List Int))) (maps_cons (Enc.map_enc _ (d_2.2 : List (Int × Int))) maps_nil))))) rfl rfl ?_
      refine g_v1 (t := 5) (u := (.int .i64 x_8)) (.int .i64 x_8) (keep_clear (s := s) (pk := [20]) h5 rfl rfl) rfl rfl ?_
      refine g_litL [(19, (.int .i64 x_8))] [Enc.enc (x_8 : Int)] rfl rfl rfl (gone_clear (s := s) (pk := [20]) (t := 20) rfl) ?_
      obtain ⟨r_13, E_r_13, h⟩ := bind_some h
      refine g_call (m := 0) (al := false) (r := (Enc.enc (r_13 : (List Int)))) [Enc.enc (d_2 : ((List (List Int)) × (List (Int × Int)))), Enc.enc ([x_8] : (List Int))] (ta_cons (v := (.agg [(Enc.enc (d_2.1 : List (List Int))), (Enc.enc (d_2.2 : List (Int × Int)))])) rfl rfl (Enc.erase_enc (d_2 : ((List (List Int)) × (List (Int × Int))))) (ta_cons (v := (encO (.at 20 []) (.of ([x_8] : List Int)))) rfl rfl (erase_encO (o := .of [x_8])) ta_nil)) (H.c97 _ _ _ E_r_13) H.g97 rfl rfl rfl rfl ?_
      refine g_v1 (t := 21) (u := (Enc.enc (r_13 : List Int))) (Enc.enc (r_13 : List Int)) rfl rfl rfl ?_
      refine g_end ?_
      refine e_end ?_
      refine renew [(2, (.ref (.bx 2) 0 [] (.agg [(.int .i64 g_1.1), (Enc.enc (g_1.2 : List (Int × Int)))]))), (3, (.ref (.bx 3) 0 [] (.agg [(Enc.enc (d_2.1 : List (List Int))), (Enc.enc (d_2.2 : List (Int × Int)))]))), (4, (.bool false)), (5, (.int .i64 x_8)), (6, (Enc.enc (r_13 : List Int)))] ⟨(keep_clear (s := s) (pk := [20]) h2 rfl (map_bx rfl (map_agg (maps_cons rfl (maps_cons (Enc.map_enc _ (g_1.2 : List (Int × Int))) maps_nil))))), (keep_clear (s := s) (pk := [20]) h3 rfl (map_bx rfl (map_agg (maps_cons (Enc.map_enc _ (d_2.1 : List (List Int))) (maps_cons (Enc.map_enc _ (d_2.2 : List (Int × Int))) maps_nil))))), (keep_clear (s := s) (pk := [20]) h4 rfl rfl), (keep_clear (s := s) (pk := [20]) h5 rfl rfl), rfl⟩ ?_
      rintro s ⟨h2, h3, h4, h5, h6⟩
      refine .nsq ?_
      refine .seq ?_
      refine run_reg ?_
      refine e_end ?_
      refine g_v1 (t := 6) (u := (Enc.enc (r_13 : List Int))) (Enc.enc (r_13 : List Int)) h6 rfl rfl ?_
      refine g_v (.int .i64 (r_13.length : Int)) (ev_len (xs := r_13) rfl) ?_
      refine g_v1 (t := 23) (u := (.int .i64 (r_13.length : Int))) (.bool ((r_13.length : Int) == 0)) rfl rfl rfl ?_
      refine g_v1 (t := 24) (u := (.bool ((r_13.length : Int) == 0))) (.bool ((r_13.length : Int) == 0)) rfl rfl rfl ?_
      refine split_on (c := ((r_13.length : Int) == 0)) h (fun hg4 h => ?_) (fun hg4 h => ?_)
      · refine g_no (Eq.trans (b := .bool ((r_13.length : Int) == 0)) rfl (congrArg V.bool hg4)) ?_
        refine g_no (Eq.trans (b := .bool ((r_13.length : Int) == 0)) rfl (congrArg V.bool hg4)) ?_
        refine g_no (Eq.trans (b := .bool ((r_13.length : Int) == 0)) rfl (congrArg V.bool hg4)) ?_
        refine g_no (Eq.trans (b := .bool ((r_13.length : Int) == 0)) rfl (congrArg V.bool hg4)) ?_
        refine g_no (Eq.trans (b := .bool ((r_13.length : Int) == 0)) rfl (congrArg V.bool hg4)) ?_
        refine g_v2 (t1 := 25) (t2 := 30) (u1 := (.bool true)) (u2 := (.tup [])) (.bool true) (Eq.trans (b := .bool ((r_13.length : Int) == 0)) rfl (congrArg V.bool hg4)) rfl rfl rfl ?_
        refine g_end ?_
        refine e_end ?_
        refine renew [(2, (.ref (.bx 2) 0 [] (.agg [(.int .i64 g_1.1), (Enc.enc (g_1.2 : List (Int × Int)))]))), (3, (.ref (.bx 3) 0 [] (.agg [(Enc.enc (d_2.1 : List (List Int))), (Enc.enc (d_2.2 : List (Int × Int)))]))), (4, (.bool false)), (5, (.int .i64 x_8)), (31, (.bool true))] ⟨h2, h3, h4, h5, rfl⟩ ?_
        rintro s ⟨h2, h3, h4, h5, h31⟩
        exact t_f57_j1 H g_1 d_2 x_8 (s_l5Good_l2 F g_1 d_2 k) ih true _ ⟨h2, h3, h4, h5, h31⟩ h
      · refine g_yes (Eq.trans (b := .bool ((r_13.length : Int) == 0)) rfl (congrArg V.bool hg4)) (g_v1 (t := 3) (u := (.ref (.bx 3) 0 [] (.agg [(Enc.enc (d_2.1 : List (List Int))), (Enc.enc (d_2.2 : List (Int × Int)))]))) (.ref (.bx 3) 0 [1] (Enc.enc (d_2.2 : List (Int × Int)))) h3 rfl rfl ?_)
        refine g_yes (Eq.trans (b := .bool ((r_13.length : Int) == 0)) rfl (congrArg V.bool hg4)) (g_v1 (t := 26) (u := (.ref (.bx 3) 0 [1] (Enc.enc (d_2.2 : List (Int × Int))))) (Enc.enc (d_2.2 : List (Int × Int))) rfl rfl rfl ?_)
        refine g_yes (Eq.trans (b := .bool ((r_13.length : Int) == 0)) rfl (congrArg V.bool hg4)) (g_v1 (t := 6) (u := (Enc.enc (r_13 : List Int))) (Enc.enc (r_13 : List Int)) h6 rfl rfl ?_)
        obtain ⟨r_16, E_r_16, h⟩ := bind_some h
        refine g_yes (Eq.trans (b := .bool ((r_13.length : Int) == 0)) rfl (congrArg V.bool hg4)) (g_call (m := 0) (al := false) (r := (Enc.enc (r_16 : Bool))) [Enc.enc (d_2.2 : (List (Int × Int))), Enc.enc (r_13 : (List Int))] (ta_cons (v := (Enc.enc (d_2.2 : List (Int × Int)))) rfl rfl (Enc.erase_enc (d_2.2 : (List (Int × Int)))) (ta_cons (v := (Enc.enc (r_13 : List Int))) rfl rfl (Enc.erase_enc (r_13 : (List Int))) ta_nil)) (H.c98 _ _ _ E_r_16) H.g98 rfl rfl rfl rfl ?_)
        refine g_yes (Eq.trans (b := .bool ((r_13.length : Int) == 0)) rfl (congrArg V.bool hg4)) (g_v1 (t := 29) (u := (.bool r_16)) (.bool (!r_16)) rfl rfl rfl ?_)
        refine g_v2 (t1 := 25) (t2 := 30) (u1 := (.bool false)) (u2 := (.bool (!r_16))) (.bool (!r_16)) (Eq.trans (b := .bool ((r_13.length : Int) == 0)) rfl (congrArg V.bool hg4)) rfl rfl rfl ?_
        refine g_end ?_
        refine e_end ?_
        refine renew [(2, (.ref (.bx 2) 0 [] (.agg [(.int .i64 g_1.1), (Enc.enc (g_1.2 : List (Int × Int)))]))), (3, (.ref (.bx 3) 0 [] (.agg [(Enc.enc (d_2.1 : List (List Int))), (Enc.enc (d_2.2 : List (Int × Int)))]))), (4, (.bool false)), (5, (.int .i64 x_8)), (31, (.bool (!r_16)))] ⟨h2, h3, h4, h5, rfl⟩ ?_
        rintro s ⟨h2, h3, h4, h5, h31⟩
        exact t_f57_j1 H g_1 d_2 x_8 (s_l5Good_l2 F g_1 d_2 k) ih (!r_16) _ ⟨h2, h3, h4, h5, h31⟩ h
    · refine .exit ?_
      refine .esq ?_
      refine .elp ?_
      refine .ebk ?_
      refine .nsq ?_
      refine .seq ?_
      refine .seq ?_
      refine run_reg ?_
      refine e_end ?_
      refine g_v0 (.int .i64 0) rfl rfl ?_
      refine g_end ?_
      refine e_end ?_
      refine renew [(2, (.ref (.bx 2) 0 [] (.agg [(.int .i64 g_1.1), (Enc.enc (g_1.2 : List (Int × Int)))]))), (3, (.ref (.bx 3) 0 [] (.agg [(Enc.enc (d_2.1 : List (List Int))), (Enc.enc (d_2.2 : List (Int × Int)))]))), (4, (.bool false)), (7, (.int .i64 0))] ⟨h2, h3, h4, rfl⟩ ?_
      rintro s ⟨h2, h3, h4, h7⟩
      refine .nsq ?_
      refine .block ?_
      refine .loop ?_
      exact t_f57_l1 H g_1 d_2 F 0 _ ⟨h2, h3, h4, h7⟩ h
def s_l5Good (F : Nat) (g_1 : (Int × (List (Int × Int)))) (d_2 : ((List (List Int)) × (List (Int × Int)))) : Option Bool :=
  (s_l5Shape F g_1 d_2).bind fun r_3 =>
  bif (!r_3) then
    some false
  else
    s_l5Good_l2 F g_1 d_2 F 0
theorem t57 (H : H57 D σ F) (g_1 : (Int × (List (Int × Int)))) (d_2 : ((List (List Int)) × (List (Int × Int)))) (s : Nat → V) (hs : Facts [(0, (.agg [(.int .i64 g_1.1), (Enc.enc (g_1.2 : List (Int × Int)))])), (1, (.agg [(Enc.enc (d_2.1 : List (List Int))), (Enc.enc (d_2.2 : List (Int × Int)))]))] s) (h : s_l5Good F g_1 d_2 = some r) : Run D σ (R57 r) (.run A57 []) s := by
  unfold s_l5Good at h
  obtain ⟨h0, h1⟩ := hs
  refine .seq ?_
  refine run_reg ?_
  refine e_clr ?_
  refine e_end ?_
  refine g_box (.agg [(.int .i64 g_1.1), (Enc.enc (g_1.2 : List (Int × Int)))]) (rd_of (keep_clear (s := s) (pk := [2, 3]) h0 rfl (map_agg (maps_cons rfl (maps_cons (Enc.map_enc _ (g_1.2 : List (Int × Int))) maps_nil)))) rfl) (gone_clear (s := s) (pk := [2, 3]) (t := 2) rfl) rfl ?_
  refine g_box (.agg [(Enc.enc (d_2.1 : List (List Int))), (Enc.enc (d_2.2 : List (Int × Int)))]) (rd_of (keep_clear (s := s) (pk := [2, 3]) h1 rfl (map_agg (maps_cons (Enc.map_enc _ (d_2.1 : List (List Int))) (maps_cons (Enc.map_enc _ (d_2.2 : List (Int × Int))) maps_nil)))) rfl) (gone_clear (s := s) (pk := [2, 3]) (t := 3) rfl) rfl ?_
  refine g_v0 (.bool false) rfl rfl ?_
  refine g_end ?_
  refine e_end ?_
  refine renew [(2, (.ref (.bx 2) 0 [] (.agg [(.int .i64 g_1.1), (Enc.enc (g_1.2 : List (Int × Int)))]))), (3, (.ref (.bx 3) 0 [] (.agg [(Enc.enc (d_2.1 : List (List Int))), (Enc.enc (d_2.2 : List (Int × Int)))]))), (4, (.bool false))] ⟨rfl, rfl, rfl⟩ ?_
  rintro s ⟨h2, h3, h4⟩
  refine .nsq ?_
  refine .seq ?_
  refine .seq ?_
  refine run_reg ?_
  refine e_end ?_
  refine g_v1 (t := 2) (u := (.ref (.bx 2) 0 [] (.agg [(.int .i64 g_1.1), (Enc.enc (g_1.2 : List (Int × Int)))]))) (.agg [(.int .i64 g_1.1), (Enc.enc (g_1.2 : List (Int × Int)))]) h2 rfl rfl ?_
  refine g_v1 (t := 3) (u := (.ref (.bx 3) 0 [] (.agg [(Enc.enc (d_2.1 : List (List Int))), (Enc.enc (d_2.2 : List (Int × Int)))]))) (.agg [(Enc.enc (d_2.1 : List (List Int))), (Enc.enc (d_2.2 : List (Int × Int)))]) h3 rfl rfl ?_
  obtain ⟨r_3, E_r_3, h⟩ := bind_some h
  refine g_call (m := 0) (al := false) (r := (Enc.enc (r_3 : Bool))) [Enc.enc (g_1 : (Int × (List (Int × Int)))), Enc.enc (d_2 : ((List (List Int)) × (List (Int × Int))))] (ta_cons (v := (.agg [(.int .i64 g_1.1), (Enc.enc (g_1.2 : List (Int × Int)))])) rfl rfl (Enc.erase_enc (g_1 : (Int × (List (Int × Int))))) (ta_cons (v := (.agg [(Enc.enc (d_2.1 : List (List Int))), (Enc.enc (d_2.2 : List (Int × Int)))])) rfl rfl (Enc.erase_enc (d_2 : ((List (List Int)) × (List (Int × Int))))) ta_nil)) (H.c96 _ _ _ E_r_3) H.g96 rfl rfl rfl rfl ?_
  refine g_v1 (t := 10) (u := (.bool r_3)) (.bool (!r_3)) rfl rfl rfl ?_
  refine g_end ?_
  refine e_end ?_
  refine renew [(2, (.ref (.bx 2) 0 [] (.agg [(.int .i64 g_1.1), (Enc.enc (g_1.2 : List (Int × Int)))]))), (3, (.ref (.bx 3) 0 [] (.agg [(Enc.enc (d_2.1 : List (List Int))), (Enc.enc (d_2.2 : List (Int × Int)))]))), (4, (.bool false)), (11, (.bool (!r_3)))] ⟨h2, h3, h4, rfl⟩ ?_
  rintro s ⟨h2, h3, h4, h11⟩
  refine .nsq ?_
  refine run_cond (t := (!r_3)) h11 h (fun h => ?_) (fun h => ?_)
  · refine .seq ?_
    refine run_reg ?_
    refine e_end ?_
    refine g_v0 (.bool false) rfl rfl ?_
    refine g_end ?_
    refine e_end ?_
    refine renew [(2, (.ref (.bx 2) 0 [] (.agg [(.int .i64 g_1.1), (Enc.enc (g_1.2 : List (Int × Int)))]))), (3, (.ref (.bx 3) 0 [] (.agg [(Enc.enc (d_2.1 : List (List Int))), (Enc.enc (d_2.2 : List (Int × Int)))]))), (4, (.bool false))] ⟨h2, h3, rfl⟩ ?_
    rintro s ⟨h2, h3, h4⟩
    refine .nsq ?_
    refine .ret ?_
    have hr := Option.some.inj h
    subst hr
    exact rrA (res_tmp h4) rfl
  · refine .skip ?_
    refine .nsq ?_
    refine .seq ?_
    refine .seq ?_
    refine run_reg ?_
    refine e_end ?_
    refine g_v0 (.int .i64 0) rfl rfl ?_
    refine g_end ?_
    refine e_end ?_
    refine renew [(2, (.ref (.bx 2) 0 [] (.agg [(.int .i64 g_1.1), (Enc.enc (g_1.2 : List (Int × Int)))]))), (3, (.ref (.bx 3) 0 [] (.agg [(Enc.enc (d_2.1 : List (List Int))), (Enc.enc (d_2.2 : List (Int × Int)))]))), (4, (.bool false)), (5, (.int .i64 0))] ⟨h2, h3, h4, rfl⟩ ?_
    rintro s ⟨h2, h3, h4, h5⟩
    refine .nsq ?_
    refine .block ?_
    refine .loop ?_
    exact t_f57_l2 H g_1 d_2 F 0 _ ⟨h2, h3, h4, h5⟩ h
end
def e57 (F : Nat) : Ent := ⟨57, da (fun (x : ((Int × (List (Int × Int))) × ((List (List Int)) × (List (Int × Int))) × Unit)) => s_l5Good F x.1 x.2.1) (fun (r : Bool) => (Enc.enc (r : Bool))), 0, false, selF []⟩
theorem p57 {F : Nat} {x0 : (Int × (List (Int × Int)))} {x1 : ((List (List Int)) × (List (Int × Int)))} {r : Bool} (h : s_l5Good F x0 x1 = some r) : (e57 F).den [Enc.enc x0, Enc.enc x1] = some (Enc.enc (r : Bool)) := da_put (f := fun (x : ((Int × (List (Int × Int))) × ((List (List Int)) × (List (Int × Int))) × Unit)) => s_l5Good F x.1 x.2.1) (t := fun (r : Bool) => (Enc.enc (r : Bool))) (x0, x1, ()) h
theorem o57 {D : Den} {σ : Sig} {F : Nat} (hF : Fits2 Try.prog D σ) (H : H57 D σ F) : (e57 F).Ok Try.prog := by
  refine ⟨fun args r h => ?_, ⟨Try.f57, Try.func57, rfl, rfl⟩⟩
  obtain ⟨⟨x0, x1, _⟩, y, rfl, hy, rfl⟩ := da_open h
  exact contract_run hF (by kernel_rfl) Try.func57 rfl c57 (show 2 ≤ Try.f57.ntmps by decide) (t57 H x0 x1 _ ⟨rfl, rfl⟩ hy)
/- loop.example/g01109/spec.l1Most -/
def A49_2 : AC := (AC.cond (O.t 7) (AC.seq (AC.reg [] [(I.mk (some 8) none false (X.v (A.mov (O.t 0)))), (I.mk (some 4) none false (X.v (A.mov (O.t 8))))] []) AC.ret) AC.skip)
def A49_3 : AC := (AC.seq (AC.reg [] [(I.mk (some 9) none false (X.v (A.mov (O.t 1)))), (I.mk (some 4) none false (X.v (A.mov (O.t 9))))] []) AC.ret)
def A49_1 : AC := (AC.seq (AC.seq (AC.reg [] [(I.mk (some 5) none false (X.v (A.mov (O.t 0)))), (I.mk (some 6) none false (X.v (A.mov (O.t 1)))), (I.mk (some 7) none false (X.v (A.bin BinOp.gtr (O.t 5) (O.t 6))))] []) A49_2) A49_3)
def A49 : AC := (AC.seq (AC.reg [] [(I.mk (some 4) none false (X.v (A.mov (O.k (V.int IntKind.i64 (Int.ofNat 0))))))] []) A49_1)
def an49 : List An := []
theorem c49 : cC Try.prog Try.f49.ntmps an49 (Try.f49.body.getD .skip) = some A49 := by kernel_rfl
structure H49 (D : Den) (σ : Sig) (F : Nat) : Prop where
  mk ::
abbrev R49 (r : Int) : (Nat → V) → Prop := RR Try.prog [.tmp 4] 0 false (Enc.enc (r : Int))
section
variable {D : Den} {σ : Sig} {F : Nat} {r : Int}
def s_l1Most (F : Nat) (a_1 : Int) (b_2 : Int) : Option Int :=
  bif decide (a_1 > b_2) then
    some a_1
  else
    some b_2
theorem t49 (H : H49 D σ F) (a_1 : Int) (b_2 : Int) (s : Nat → V) (hs : Facts [(0, (.int .i64 a_1)), (1, (.int .i64 b_2))] s) (h : s_l1Most F a_1 b_2 = some r) : Run D σ (R49 r) (.run A49 []) s := by
  unfold s_l1Most at h
  obtain ⟨h0, h1⟩ := hs
  refine .seq ?_
  refine run_reg ?_
  refine e_end ?_
  refine g_v0 (.int .i64 0) rfl rfl ?_
  refine g_end ?_
  refine e_end ?_
  refine renew [(0, (.int .i64 a_1)), (1, (.int .i64 b_2)), (4, (.int .i64 0))] ⟨h0, h1, rfl⟩ ?_
  rintro s ⟨h0, h1, h4⟩
  refine .nsq ?_
  refine .seq ?_
  refine .seq ?_
  refine run_reg ?_
  refine e_end ?_
  refine g_v1 (t := 0) (u := (.int .i64 a_1)) (.int .i64 a_1) h0 rfl rfl ?_
  refine g_v1 (t := 1) (u := (.int .i64 b_2)) (.int .i64 b_2) h1 rfl rfl ?_
  refine g_v2 (t1 := 5) (t2 := 6) (u1 := (.int .i64 a_1)) (u2 := (.int .i64 b_2)) (.bool (decide (a_1 > b_2))) rfl rfl rfl rfl ?_
  refine g_end ?_
  refine e_end ?_
  refine renew [(0, (.int .i64 a_1)), (1, (.int .i64 b_2)), (4, (.int .i64 0)), (7, (.bool (decide (a_1 > b_2))))] ⟨h0, h1, h4, rfl⟩ ?_
  rintro s ⟨h0, h1, h4, h7⟩
  refine .nsq ?_
  refine run_cond (t := decide (a_1 > b_2)) h7 h (fun h => ?_) (fun h => ?_)
  · refine .seq ?_
    refine run_reg ?_
    refine e_end ?_
    refine g_v1 (t := 0) (u := (.int .i64 a_1)) (.int .i64 a_1) h0 rfl rfl ?_
    refine g_v1 (t := 8) (u := (.int .i64 a_1)) (.int .i64 a_1) rfl rfl rfl ?_
    refine g_end ?_
    refine e_end ?_
    refine renew [(1, (.int .i64 b_2)), (4, (.int .i64 a_1))] ⟨h1, rfl⟩ ?_
    rintro s ⟨h1, h4⟩
    refine .nsq ?_
    refine .ret ?_
    have hr := Option.some.inj h
    subst hr
    exact rrA (res_tmp h4) rfl
  · refine .skip ?_
    refine .nsq ?_
    refine .seq ?_
    refine run_reg ?_
    refine e_end ?_
    refine g_v1 (t := 1) (u := (.int .i64 b_2)) (.int .i64 b_2) h1 rfl rfl ?_
    refine g_v1 (t := 9) (u := (.int .i64 b_2)) (.int .i64 b_2) rfl rfl rfl ?_
    refine g_end ?_
    refine e_end ?_
    refine renew [(4, (.int .i64 b_2))] rfl ?_
    rintro s h4
    refine .nsq ?_
    refine .ret ?_
    have hr := Option.some.inj h
    subst hr
    exact rrA (res_tmp h4) rfl
end
def e49 (F : Nat) : Ent := ⟨49, da (fun (x : (Int × Int × Unit)) => s_l1Most F x.1 x.2.1) (fun (r : Int) => (Enc.enc (r : Int))), 0, false, selF []⟩
theorem p49 {F : Nat} {x0 : Int} {x1 : Int} {r : Int} (h : s_l1Most F x0 x1 = some r) : (e49 F).den [Enc.enc x0, Enc.enc x1] = some (Enc.enc (r : Int)) := da_put (f := fun (x : (Int × Int × Unit)) => s_l1Most F x.1 x.2.1) (t := fun (r : Int) => (Enc.enc (r : Int))) (x0, x1, ()) h
theorem o49 {D : Den} {σ : Sig} {F : Nat} (hF : Fits2 Try.prog D σ) (H : H49 D σ F) : (e49 F).Ok Try.prog := by
  refine ⟨fun args r h => ?_, ⟨Try.f49, Try.func49, rfl, rfl⟩⟩
  obtain ⟨⟨x0, x1, _⟩, y, rfl, hy, rfl⟩ := da_open h
  exact contract_run hF (by kernel_rfl) Try.func49 rfl c49 (show 2 ≤ Try.f49.ntmps by decide) (t49 H x0 x1 _ ⟨rfl, rfl⟩ hy)
/- loop.example/g01109/spec.DecompositionWidth -/
def A32_2 : AC := (AC.cond (O.t 21) AC.skip (AC.exit 0))
def A32_4 : AC := (AC.reg [] [(I.mk (some 22) none false (X.v (A.mov (O.t 7)))), (I.mk (some 23) none false (X.v (A.bin BinOp.add (O.t 22) (O.k (V.int IntKind.i64 (Int.ofNat 1)))))), (I.mk (some 7) none false (X.v (A.mov (O.t 23))))] [])
def A32_3 : AC := (AC.seq (AC.block 1 (AC.reg [] [(I.mk (some 24) none false (X.v (A.mov (O.t 6)))), (I.mk (some 25) none false (X.v (A.fld (O.t 3) 0 0))), (I.mk (some 26) none false (X.v (A.load Sh.p (O.t 25)))), (I.mk (some 27) none false (X.v (A.mov (O.t 7)))), (I.mk (some 28) none false (X.v (A.idx (O.t 26) (O.t 27) 1))), (I.mk (some 29) none false (X.v (A.load Sh.p (O.t 28)))), (I.mk (some 30) none false (X.v (A.len (O.t 29)))), (I.mk (some 31) none false (X.call (O.k (V.fn 49 [] [])) [(O.t 24), (O.t 30)])), (I.mk (some 6) none false (X.v (A.mov (O.t 31))))] [])) A32_4)
def A32_1 : AC := (AC.seq (AC.seq (AC.reg [] [(I.mk (some 17) none false (X.v (A.mov (O.t 7)))), (I.mk (some 18) none false (X.v (A.fld (O.t 3) 0 0))), (I.mk (some 19) none false (X.v (A.load Sh.p (O.t 18)))), (I.mk (some 20) none false (X.v (A.len (O.t 19)))), (I.mk (some 21) none false (X.v (A.bin BinOp.lss (O.t 17) (O.t 20))))] []) A32_2) A32_3)
def A32_5 : AC := (AC.seq (AC.reg [] [(I.mk (some 32) none false (X.v (A.mov (O.t 6)))), (I.mk (some 33) none false (X.v (A.bin BinOp.sub (O.t 32) (O.k (V.int IntKind.i64 (Int.ofNat 1)))))), (I.mk (some 4) none false (X.v (A.mov (O.t 33)))), (I.mk (some 5) none false (X.v (A.mov (O.k (V.bool true)))))] []) AC.ret)
def A32_6 : AC := (AC.cond (O.t 16) (AC.seq (AC.reg [] [(I.mk (some 4) none false (X.v (A.mov (O.k (V.int IntKind.i64 (Int.ofNat 0)))))), (I.mk (some 5) none false (X.v (A.mov (O.k (V.bool false)))))] []) AC.ret) AC.skip)
def A32_9 : AC := (AC.block 0 (AC.loop A32_1))
def A32_8 : AC := (AC.seq (AC.seq (AC.reg [] [(I.mk (some 7) none false (X.v (A.mov (O.k (V.int IntKind.i64 (Int.ofNat 0))))))] []) A32_9) A32_5)
def A32_7 : AC := (AC.seq (AC.reg [] [(I.mk (some 6) none false (X.v (A.mov (O.k (V.int IntKind.i64 (Int.ofNat 0))))))] []) A32_8)
def A32_10 : AC := (AC.seq (AC.seq (AC.reg [] [(I.mk (some 8) none false (X.v (A.load (Sh.ag [Sh.s, Sh.p]) (O.t 2)))), (I.mk (some 9) none false (X.call (O.k (V.fn 42 [] [])) [(O.t 8)])), (I.mk (some 10) none false (X.v (A.un UnOp.not (O.t 9)))), (I.mk (some 11) none false (X.v (A.mov (O.t 10)))), (I.mk (some 12) (some (11, false)) false (X.v (A.load (Sh.ag [Sh.s, Sh.p]) (O.t 2)))), (I.mk (some 13) (some (11, false)) false (X.v (A.load (Sh.ag [Sh.p, Sh.p]) (O.t 3)))), (I.mk (some 14) (some (11, false)) false (X.call (O.k (V.fn 57 [] [])) [(O.t 12), (O.t 13)])), (I.mk (some 15) (some (11, false)) false (X.v (A.un UnOp.not (O.t 14)))), (I.mk (some 16) none false (X.v (A.pick (O.t 11) (O.k (V.bool true)) (O.t 15))))] []) A32_6) A32_7)
def A32 : AC := (AC.seq (AC.reg [.clr [2, 3]] [(I.mk (some 2) none false (X.box (O.t 0))), (I.mk (some 3) none false (X.box (O.t 1))), (I.mk (some 4) none false (X.v (A.mov (O.k (V.int IntKind.i64 (Int.ofNat 0)))))), (I.mk (some 5) none false (X.v (A.mov (O.k (V.bool false)))))] []) A32_10)
def an32 : List An := [{ id := 0, pre := [.clr [2, 3]], ep := [], lin := [], sp := [] }]
theorem c32 : cC Try.prog Try.f32.ntmps an32 (Try.f32.body.getD .skip) = some A32 := by kernel_rfl
structure H32 (D : Den) (σ : Sig) (F : Nat) : Prop where
  c42 : ∀ (x0 : (Int × (List (Int × Int)))) r, s_l2Good F x0 = some r → D 42 [Enc.enc x0] = some (Enc.enc (r : Bool))
  g42 : σ 42 = some (0, false)
  c57 : ∀ (x0 : (Int × (List (Int × Int)))) (x1 : ((List (List Int)) × (List (Int × Int)))) r, s_l5Good F x0 x1 = some r → D 57 [Enc.enc x0, Enc.enc x1] = some (Enc.enc (r : Bool))
  g57 : σ 57 = some (0, false)
  c49 : ∀ (x0 : Int) (x1 : Int) r, s_l1Most F x0 x1 = some r → D 49 [Enc.enc x0, Enc.enc x1] = some (Enc.enc (r : Int))
  g49 : σ 49 = some (0, false)
abbrev R32 (r : (Int × Bool)) : (Nat → V) → Prop := RR Try.prog [.tmp 4, .tmp 5] 0 false (.tup [Enc.enc (r.1 : Int), Enc.enc (r.2 : Bool)])
section
variable {D : Den} {σ : Sig} {F : Nat} {r : (Int × Bool)}
def s_DecompositionWidth_l1 (F : Nat) (d_2 : ((List (List Int)) × (List (Int × Int))))  : Nat → Int → Int → Option (Int × Bool)
  | 0, _, _ => none
  | k + 1, most_8, i_9 =>
    bif decide (i_9 < (d_2.1.length : Int)) then
      (idx d_2.1 i_9).bind fun e_12 =>
      (s_l1Most F most_8 (e_12.length : Int)).bind fun r_13 =>
      (s_DecompositionWidth_l1 F d_2 k) r_13 (w64 (i_9 + 1))
    else
      some (w64 (most_8 - 1), true)
theorem t_f32_l1 (H : H32 D σ F) (d_2 : ((List (List Int)) × (List (Int × Int))))  : ∀ (k : Nat) (most_8 : Int) (i_9 : Int) (s : Nat → V), Facts [(3, (.ref (.bx 3) 0 [] (.agg [(Enc.enc (d_2.1 : List (List Int))), (Enc.enc (d_2.2 : List (Int × Int)))]))), (4, (.int .i64 0)), (5, (.bool false)), (6, (.int .i64 most_8)), (7, (.int .i64 i_9))] s → s_DecompositionWidth_l1 F d_2 k most_8 i_9 = some r → Run D σ (R32 r) (.run A32_1 [.lp A32_1, .bk 0, .sq A32_5]) s := by
  intro k
  induction k with
  | zero => intro most_8 i_9 s _ h; exact nomatch (h : (none : Option _) = some r)
  | succ k ih =>
    intro most_8 i_9 s hs h
    rw [s_DecompositionWidth_l1] at h
    obtain ⟨h3, h4, h5, h6, h7⟩ := hs
    refine .seq ?_
    refine .seq ?_
    refine run_reg ?_
    refine e_end ?_
    refine g_v1 (t := 7) (u := (.int .i64 i_9)) (.int .i64 i_9) h7 rfl rfl ?_
    refine g_v1 (t := 3) (u := (.ref (.bx 3) 0 [] (.agg [(Enc.enc (d_2.1 : List (List Int))), (Enc.enc (d_2.2 : List (Int × Int)))]))) (.ref (.bx 3) 0 [0] (Enc.enc (d_2.1 : List (List Int)))) h3 rfl rfl ?_
    refine g_v1 (t := 18) (u := (.ref (.bx 3) 0 [0] (Enc.enc (d_2.1 : List (List Int))))) (Enc.enc (d_2.1 : List (List Int))) rfl rfl rfl ?_
    refine g_v (.int .i64 (d_2.1.length : Int)) (ev_len (xs := d_2.1) rfl) ?_
    refine g_v2 (t1 := 17) (t2 := 20) (u1 := (.int .i64 i_9)) (u2 := (.int .i64 (d_2.1.length : Int))) (.bool (decide (i_9 < (d_2.1.length : Int)))) rfl rfl rfl rfl ?_
    refine g_end ?_
    refine e_end ?_
    refine renew [(3, (.ref (.bx 3) 0 [] (.agg [(Enc.enc (d_2.1 : List (List Int))), (Enc.enc (d_2.2 : List (Int × Int)))]))), (4, (.int .i64 0)), (5, (.bool false)), (6, (.int .i64 most_8)), (7, (.int .i64 i_9)), (21, (.bool (decide (i_9 < (d_2.1.length : Int)))))] ⟨h3, h4, h5, h6, h7, rfl⟩ ?_
    rintro s ⟨h3, h4, h5, h6, h7, h21⟩
    refine .nsq ?_
    refine run_cond (t := decide (i_9 < (d_2.1.length : Int))) h21 h (fun h => ?_) (fun h => ?_)
    · refine .skip ?_
      refine .nsq ?_
      refine .seq ?_
      refine .block ?_
      refine run_reg ?_
      refine e_end ?_
      refine g_v1 (t := 6) (u := (.int .i64 most_8)) (.int .i64 most_8) h6 rfl rfl ?_
      refine g_v1 (t := 3) (u := (.ref (.bx 3) 0 [] (.agg [(Enc.enc (d_2.1 : List (List Int))), (Enc.enc (d_2.2 : List (Int × Int)))]))) (.ref (.bx 3) 0 [0] (Enc.enc (d_2.1 : List (List Int)))) h3 rfl rfl ?_
      refine g_v1 (t := 25) (u := (.ref (.bx 3) 0 [0] (Enc.enc (d_2.1 : List (List Int))))) (Enc.enc (d_2.1 : List (List Int))) rfl rfl rfl ?_
      refine g_v1 (t := 7) (u := (.int .i64 i_9)) (.int .i64 i_9) h7 rfl rfl ?_
      obtain ⟨e_12, E_e_12, h⟩ := bind_some h
      refine g_v (.ref .sh 0 [] (Enc.enc (e_12 : List Int))) (ev_idx (t := .sh) (lo := 0) (xs := d_2.1) rfl rfl E_e_12 rfl rfl) ?_
      refine g_v1 (t := 28) (u := (.ref .sh 0 [] (Enc.enc (e_12 : List Int)))) (Enc.enc (e_12 : List Int)) rfl rfl rfl ?_
      refine g_v (.int .i64 (e_12.length : Int)) (ev_len (xs := e_12) rfl) ?_
      obtain ⟨r_13, E_r_13, h⟩ := bind_some h
      refine g_call (m := 0) (al := false) (r := (Enc.enc (r_13 : Int))) [Enc.enc (most_8 : Int), Enc.enc ((e_12.length : Int) : Int)] (ta_cons (v := (.int .i64 most_8)) rfl rfl rfl (ta_cons (v := (.int .i64 (e_12.length : Int))) rfl rfl rfl ta_nil)) (H.c49 _ _ _ E_r_13) H.g49 rfl rfl rfl rfl ?_
      refine g_v1 (t := 31) (u := (.int .i64 r_13)) (.int .i64 r_13) rfl rfl rfl ?_
      refine g_end ?_
      refine e_end ?_
      refine renew [(3, (.ref (.bx 3) 0 [] (.agg [(Enc.enc (d_2.1 : List (List Int))), (Enc.enc (d_2.2 : List (Int × Int)))]))), (4, (.int .i64 0)), (5, (.bool false)), (6, (.int .i64 r_13)), (7, (.int .i64 i_9))] ⟨h3, h4, h5, rfl, h7⟩ ?_
      rintro s ⟨h3, h4, h5, h6, h7⟩
      refine .nbk ?_
      refine .nsq ?_
      refine run_reg ?_
      refine e_end ?_
      refine g_v1 (t := 7) (u := (.int .i64 i_9)) (.int .i64 i_9) h7 rfl rfl ?_
      refine g_v1 (t := 22) (u := (.int .i64 i_9)) (.int .i64 (w64 (i_9 + 1))) rfl rfl rfl ?_
      refine g_v1 (t := 23) (u := (.int .i64 (w64 (i_9 + 1)))) (.int .i64 (w64 (i_9 + 1))) rfl rfl rfl ?_
      refine g_end ?_
      refine e_end ?_
      refine renew [(3, (.ref (.bx 3) 0 [] (.agg [(Enc.enc (d_2.1 : List (List Int))), (Enc.enc (d_2.2 : List (Int × Int)))]))), (4, (.int .i64 0)), (5, (.bool false)), (6, (.int .i64 r_13)), (7, (.int .i64 (w64 (i_9 + 1))))] ⟨h3, h4, h5, h6, rfl⟩ ?_
      rintro s ⟨h3, h4, h5, h6, h7⟩
      refine .nlp ?_
      exact ih r_13 (w64 (i_9 + 1)) _ ⟨h3, h4, h5, h6, h7⟩ h
    · refine .exit ?_
      refine .esq ?_
      refine .elp ?_
      refine .ebk ?_
      refine .nsq ?_
      refine .seq ?_
      refine run_reg ?_
      refine e_end ?_
      refine g_v1 (t := 6) (u := (.int .i64 most_8)) (.int .i64 most_8) h6 rfl rfl ?_
      refine g_v1 (t := 32) (u := (.int .i64 most_8)) (.int .i64 (w64 (most_8 - 1))) rfl rfl rfl ?_
      refine g_v1 (t := 33) (u := (.int .i64 (w64 (most_8 - 1)))) (.int .i64 (w64 (most_8 - 1))) rfl rfl rfl ?_
      refine g_v0 (.bool true) rfl rfl ?_
      refine g_end ?_
      refine e_end ?_
      refine renew [(4, (.int .i64 (w64 (most_8 - 1)))), (5, (.bool true))] ⟨rfl, rfl⟩ ?_
      rintro s ⟨h4, h5⟩
      refine .nsq ?_
      refine .ret ?_
      have hr := Option.some.inj h
      subst hr
      exact rrB (res_tmp h4) (res_tmp h5) rfl
def s_DecompositionWidth_j1 (F : Nat) (d_2 : ((List (List Int)) × (List (Int × Int))))  (t16_5 : Bool) : Option (Int × Bool) :=
  bif t16_5 then
    some (0, false)
  else
    s_DecompositionWidth_l1 F d_2 F 0 0
theorem t_f32_j1 (H : H32 D σ F) (d_2 : ((List (List Int)) × (List (Int × Int))))  (t16_5 : Bool) (s : Nat → V) (hs : Facts [(3, (.ref (.bx 3) 0 [] (.agg [(Enc.enc (d_2.1 : List (List Int))), (Enc.enc (d_2.2 : List (Int × Int)))]))), (4, (.int .i64 0)), (5, (.bool false)), (16, (.bool t16_5))] s) (h : s_DecompositionWidth_j1 F d_2  t16_5 = some r) : Run D σ (R32 r) (.nrm [.sq A32_6, .sq A32_7]) s := by
  unfold s_DecompositionWidth_j1 at h
  obtain ⟨h3, h4, h5, h16⟩ := hs
  refine .nsq ?_
  refine run_cond (t := t16_5) h16 h (fun h => ?_) (fun h => ?_)
  · refine .seq ?_
    refine run_reg ?_
    refine e_end ?_
    refine g_v0 (.int .i64 0) rfl rfl ?_
    refine g_v0 (.bool false) rfl rfl ?_
    refine g_end ?_
    refine e_end ?_
    refine renew [(3, (.ref (.bx 3) 0 [] (.agg [(Enc.enc (d_2.1 : List (List Int))), (Enc.enc (d_2.2 : List (Int × Int)))]))), (4, (.int .i64 0)), (5, (.bool false))] ⟨h3, rfl, rfl⟩ ?_
    rintro s ⟨h3, h4, h5⟩
    refine .nsq ?_
    refine .ret ?_
    have hr := Option.some.inj h
    subst hr
    exact rrB (res_tmp h4) (res_tmp h5) rfl
  · refine .skip ?_
    refine .nsq ?_
    refine .seq ?_
    refine run_reg ?_
    refine e_end ?_
    refine g_v0 (.int .i64 0) rfl rfl ?_
    refine g_end ?_
    refine e_end ?_
    refine renew [(3, (.ref (.bx 3) 0 [] (.agg [(Enc.enc (d_2.1 : List (List Int))), (Enc.enc (d_2.2 : List (Int × Int)))]))), (4, (.int .i64 0)), (5, (.bool false)), (6, (.int .i64 0))] ⟨h3, h4, h5, rfl⟩ ?_
    rintro s ⟨h3, h4, h5, h6⟩
    refine .nsq ?_
    refine .seq ?_
    refine .seq ?_
    refine run_reg ?_
    refine e_end ?_
    refine g_v0 (.int .i64 0) rfl rfl ?_
    refine g_end ?_
    refine e_end ?_
    refine renew [(3, (.ref (.bx 3) 0 [] (.agg [(Enc.enc (d_2.1 : List (List Int))), (Enc.enc (d_2.2 : List (Int × Int)))]))), (4, (.int .i64 0)), (5, (.bool false)), (6, (.int .i64 0)), (7, (.int .i64 0))] ⟨h3, h4, h5, h6, rfl⟩ ?_
    rintro s ⟨h3, h4, h5, h6, h7⟩
    refine .nsq ?_
    refine .block ?_
    refine .loop ?_
    exact t_f32_l1 H d_2 F 0 0 _ ⟨h3, h4, h5, h6, h7⟩ h
def s_DecompositionWidth (F : Nat) (g_1 : (Int × (List (Int × Int)))) (d_2 : ((List (List Int)) × (List (Int × Int)))) : Option (Int × Bool) :=
  (s_l2Good F g_1).bind fun r_14 =>
  bif (!r_14) then
    s_DecompositionWidth_j1 F d_2 true
  else
    (s_l5Good F g_1 d_2).bind fun r_15 =>
    s_DecompositionWidth_j1 F d_2 (!r_15)
theorem t32 (H : H32 D σ F) (g_1 : (Int × (List (Int × Int)))) (d_2 : ((List (List Int)) × (List (Int × Int)))) (s : Nat → V) (hs : Facts [(0, (.agg [(.int .i64 g_1.1), (Enc.enc (g_1.2 : List (Int × Int)))])), (1, (.agg [(Enc.enc (d_2.1 : List (List Int))), (Enc.enc (d_2.2 : List (Int × Int)))]))] s) (h : s_DecompositionWidth F g_1 d_2 = some r) : Run D σ (R32 r) (.run A32 []) s := by
  unfold s_DecompositionWidth at h
  obtain ⟨h0, h1⟩ := hs
  refine .seq ?_
  refine run_reg ?_
  refine e_clr ?_
  refine e_end ?_
  refine g_box (.agg [(.int .i64 g_1.1), (Enc.enc (g_1.2 : List (Int × Int)))]) (rd_of (keep_clear (s := s) (pk := [2, 3]) h0 rfl (map_agg (maps_cons rfl (maps_cons (Enc.map_enc _ (g_1.2 : List (Int × Int))) maps_nil)))) rfl) (gone_clear (s := s) (pk := [2, 3]) (t := 2) rfl) rfl ?_
  refine g_box (.agg [(Enc.enc (d_2.1 : List (List Int))), (Enc.enc (d_2.2 : List (Int × Int)))]) (rd_of (keep_clear (s := s) (pk := [2, 3]) h1 rfl (map_agg (maps_cons (Enc.map_enc _ (d_2.1 : List (List Int))) (maps_cons (Enc.map_enc _ (d_2.2 : List (Int × Int))) maps_nil)))) rfl) (gone_clear (s := s) (pk := [2, 3]) (t := 3) rfl) rfl ?_
  refine g_v0 (.int .i64 0) rfl rfl ?_
  refine g_v0 (.bool false) rfl rfl ?_
  refine g_end ?_
  refine e_end ?_
  refine renew [(2, (.ref (.bx 2) 0 [] (.agg [(.int .i64 g_1.1), (Enc.enc (g_1.2 : List (Int × Int)))]))), (3, (.ref (.bx 3) 0 [] (.agg [(Enc.enc (d_2.1 : List (List Int))), (Enc.enc (d_2.2 : List (Int × Int)))]))), (4, (.int .i64 0)), (5, (.bool false))] ⟨rfl, rfl, rfl, rfl⟩ ?_
  rintro s ⟨h2, h3, h4, h5⟩
  refine .nsq ?_
  refine .seq ?_
  refine .seq ?_
  refine run_reg ?_
  refine e_end ?_
  refine g_v1 (t := 2) (u := (.ref (.bx 2) 0 [] (.agg [(.int .i64 g_1.1), (Enc.enc (g_1.2 : List (Int × Int)))]))) (.agg [(.int .i64 g_1.1), (Enc.enc (g_1.2 : List (Int × Int)))]) h2 rfl rfl ?_
  obtain ⟨r_14, E_r_14, h⟩ := bind_some h
  refine g_call (m := 0) (al := false) (r := (Enc.enc (r_14 : Bool))) [Enc.enc (g_1 : (Int × (List (Int × Int))))] (ta_cons (v := (.agg [(.int .i64 g_1.1), (Enc.enc (g_1.2 : List (Int × Int)))])) rfl rfl (Enc.erase_enc (g_1 : (Int × (List (Int × Int))))) ta_nil) (H.c42 _ _ E_r_14) H.g42 rfl rfl rfl rfl ?_
  refine g_v1 (t := 9) (u := (.bool r_14)) (.bool (!r_14)) rfl rfl rfl ?_
  refine g_v1 (t := 10) (u := (.bool (!r_14))) (.bool (!r_14)) rfl rfl rfl ?_
  refine split_on (c := (!r_14)) h (fun hg4 h => ?_) (fun hg4 h => ?_)
  · refine g_no (Eq.trans (b := .bool (!r_14)) rfl (congrArg V.bool hg4)) ?_
    refine g_no (Eq.trans (b := .bool (!r_14)) rfl (congrArg V.bool hg4)) ?_
    refine g_no (Eq.trans (b := .bool (!r_14)) rfl (congrArg V.bool hg4)) ?_
    refine g_no (Eq.trans (b := .bool (!r_14)) rfl (congrArg V.bool hg4)) ?_
    refine g_v2 (t1 := 11) (t2 := 15) (u1 := (.bool true)) (u2 := (.tup [])) (.bool true) (Eq.trans (b := .bool (!r_14)) rfl (congrArg V.bool hg4)) rfl rfl rfl ?_
    refine g_end ?_
    refine e_end ?_
    refine renew [(3, (.ref (.bx 3) 0 [] (.agg [(Enc.enc (d_2.1 : List (List Int))), (Enc.enc (d_2.2 : List (Int × Int)))]))), (4, (.int .i64 0)), (5, (.bool false)), (16, (.bool true))] ⟨h3, h4, h5, rfl⟩ ?_
    rintro s ⟨h3, h4, h5, h16⟩
    exact t_f32_j1 H d_2 true _ ⟨h3, h4, h5, h16⟩ h
  · refine g_yes (Eq.trans (b := .bool (!r_14)) rfl (congrArg V.bool hg4)) (g_v1 (t := 2) (u := (.ref (.bx 2) 0 [] (.agg [(.int .i64 g_1.1), (Enc.enc (g_1.2 : List (Int × Int)))]))) (.agg [(.int .i64 g_1.1), (Enc.enc (g_1.2 : List (Int × Int)))]) h2 rfl rfl ?_)
    refine g_yes (Eq.trans (b := .bool (!r_14)) rfl (congrArg V.bool hg4)) (g_v1 (t := 3) (u := (.ref (.bx 3) 0 [] (.agg [(Enc.enc (d_2.1 : List (List Int))), (Enc.enc (d_2.2 : List (Int × Int)))]))) (.agg [(Enc.enc (d_2.1 : List (List Int))), (Enc.enc (d_2.2 : List (Int × Int)))]) h3 rfl rfl ?_)
    obtain ⟨r_15, E_r_15, h⟩ := bind_some h
    refine g_yes (Eq.trans (b := .bool (!r_14)) rfl (congrArg V.bool hg4)) (g_call (m := 0) (al := false) (r := (Enc.enc (r_15 : Bool))) [Enc.enc (g_1 : (Int × (List (Int × Int)))), Enc.enc (d_2 : ((List (List Int)) × (List (Int × Int))))] (ta_cons (v := (.agg [(.int .i64 g_1.1), (Enc.enc (g_1.2 : List (Int × Int)))])) rfl rfl (Enc.erase_enc (g_1 : (Int × (List (Int × Int))))) (ta_cons (v := (.agg [(Enc.enc (d_2.1 : List (List Int))), (Enc.enc (d_2.2 : List (Int × Int)))])) rfl rfl (Enc.erase_enc (d_2 : ((List (List Int)) × (List (Int × Int))))) ta_nil)) (H.c57 _ _ _ E_r_15) H.g57 rfl rfl rfl rfl ?_)
    refine g_yes (Eq.trans (b := .bool (!r_14)) rfl (congrArg V.bool hg4)) (g_v1 (t := 14) (u := (.bool r_15)) (.bool (!r_15)) rfl rfl rfl ?_)
    refine g_v2 (t1 := 11) (t2 := 15) (u1 := (.bool false)) (u2 := (.bool (!r_15))) (.bool (!r_15)) (Eq.trans (b := .bool (!r_14)) rfl (congrArg V.bool hg4)) rfl rfl rfl ?_
    refine g_end ?_
    refine e_end ?_
    refine renew [(3, (.ref (.bx 3) 0 [] (.agg [(Enc.enc (d_2.1 : List (List Int))), (Enc.enc (d_2.2 : List (Int × Int)))]))), (4, (.int .i64 0)), (5, (.bool false)), (16, (.bool (!r_15)))] ⟨h3, h4, h5, rfl⟩ ?_
    rintro s ⟨h3, h4, h5, h16⟩
    exact t_f32_j1 H d_2 (!r_15) _ ⟨h3, h4, h5, h16⟩ h
end
def e32 (F : Nat) : Ent := ⟨32, da (fun (x : ((Int × (List (Int × Int))) × ((List (List Int)) × (List (Int × Int))) × Unit)) => s_DecompositionWidth F x.1 x.2.1) (fun (r : (Int × Bool)) => (.tup [Enc.enc (r.1 : Int), Enc.enc (r.2 : Bool)])), 0, false, selF []⟩
theorem p32 {F : Nat} {x0 : (Int × (List (Int × Int)))} {x1 : ((List (List Int)) × (List (Int × Int)))} {r : (Int × Bool)} (h : s_DecompositionWidth F x0 x1 = some r) : (e32 F).den [Enc.enc x0, Enc.enc x1] = some (.tup [Enc.enc (r.1 : Int), Enc.enc (r.2 : Bool)]) := da_put (f := fun (x : ((Int × (List (Int × Int))) × ((List (List Int)) × (List (Int × Int))) × Unit)) => s_DecompositionWidth F x.1 x.2.1) (t := fun (r : (Int × Bool)) => (.tup [Enc.enc (r.1 : Int), Enc.enc (r.2 : Bool)])) (x0, x1, ()) h
theorem o32 {D : Den} {σ : Sig} {F : Nat} (hF : Fits2 Try.prog D σ) (H : H32 D σ F) : (e32 F).Ok Try.prog := by
  refine ⟨fun args r h => ?_, ⟨Try.f32, Try.func32, rfl, rfl⟩⟩
  obtain ⟨⟨x0, x1, _⟩, y, rfl, hy, rfl⟩ := da_open h
  exact contract_run hF (by kernel_rfl) Try.func32 rfl c32 (show 2 ≤ Try.f32.ntmps by decide) (t32 H x0 x1 _ ⟨rfl, rfl⟩ hy)
/- loop.example/g01109/impl.within -/
def A62_1 : AC := (AC.seq (AC.reg [] [(I.mk (some 7) none false (X.v (A.mov (O.t 0)))), (I.mk (some 8) none false (X.v (A.mov (O.t 1)))), (I.mk (some 9) none false (X.v (A.bin BinOp.geq (O.t 7) (O.t 8)))), (I.mk (some 10) none false (X.v (A.mov (O.t 9)))), (I.mk (some 11) (some (10, true)) false (X.v (A.mov (O.t 0)))), (I.mk (some 12) (some (10, true)) false (X.v (A.mov (O.t 2)))), (I.mk (some 13) (some (10, true)) false (X.v (A.bin BinOp.leq (O.t 11) (O.t 12)))), (I.mk (some 14) none false (X.v (A.pick (O.t 10) (O.t 13) (O.k (V.bool false))))), (I.mk (some 6) none false (X.v (A.mov (O.t 14))))] []) AC.ret)
def A62 : AC := (AC.seq (AC.reg [] [(I.mk (some 6) none false (X.v (A.mov (O.k (V.bool false)))))] []) A62_1)
def an62 : List An := []
theorem c62 : cC Try.prog Try.f62.ntmps an62 (Try.f62.body.getD .skip) = some A62 := by kernel_rfl
structure H62 (D : Den) (σ : Sig) (F : Nat) : Prop where
  mk ::
abbrev R62 (r : Bool) : (Nat → V) → Prop := RR Try.prog [.tmp 6] 0 false (Enc.enc (r : Bool))
section
variable {D : Den} {σ : Sig} {F : Nat} {r : Bool}
def i_within (F : Nat) (n_1 : Int) (low_2 : Int) (high_3 : Int) : Option Bool :=
  bif decide (n_1 ≥ low_2) then
    some (decide (n_1 ≤ high_3))
  else
    some false
theorem t62 (H : H62 D σ F) (n_1 : Int) (low_2 : Int) (high_3 : Int) (s : Nat → V) (hs : Facts [(0, (.int .i64 n_1)), (1, (.int .i64 low_2)), (2, (.int .i64 high_3))] s) (h : i_within F n_1 low_2 high_3 = some r) : Run D σ (R62 r) (.run A62 []) s := by
  unfold i_within at h
  obtain ⟨h0, h1, h2⟩ := hs
  refine .seq ?_
  refine run_reg ?_
  refine e_end ?_
  refine g_v0 (.bool false) rfl rfl ?_
  refine g_end ?_
  refine e_end ?_
  refine renew [(0, (.int .i64 n_1)), (1, (.int .i64 low_2)), (2, (.int .i64 high_3)), (6, (.bool false))] ⟨h0, h1, h2, rfl⟩ ?_
  rintro s ⟨h0, h1, h2, h6⟩
  refine .nsq ?_
  refine .seq ?_
  refine run_reg ?_
  refine e_end ?_
  refine g_v1 (t := 0) (u := (.int .i64 n_1)) (.int .i64 n_1) h0 rfl rfl ?_
  refine g_v1 (t := 1) (u := (.int .i64 low_2)) (.int .i64 low_2) h1 rfl rfl ?_
  refine g_v2 (t1 := 7) (t2 := 8) (u1 := (.int .i64 n_1)) (u2 := (.int .i64 low_2)) (.bool (decide (n_1 ≥ low_2))) rfl rfl rfl rfl ?_
  refine g_v1 (t := 9) (u := (.bool (decide (n_1 ≥ low_2)))) (.bool (decide (n_1 ≥ low_2))) rfl rfl rfl ?_
  refine split_on (c := decide (n_1 ≥ low_2)) h (fun hg4 h => ?_) (fun hg4 h => ?_)
  · refine g_yes (Eq.trans (b := .bool (decide (n_1 ≥ low_2))) rfl (congrArg V.bool hg4)) (g_v1 (t := 0) (u := (.int .i64 n_1)) (.int .i64 n_1) h0 rfl rfl ?_)
    refine g_yes (Eq.trans (b := .bool (decide (n_1 ≥ low_2))) rfl (congrArg V.bool hg4)) (g_v1 (t := 2) (u := (.int .i64 high_3)) (.int .i64 high_3) h2 rfl rfl ?_)
    refine g_yes (Eq.trans (b := .bool (decide (n_1 ≥ low_2))) rfl (congrArg V.bool hg4)) (g_v2 (t1 := 11) (t2 := 12) (u1 := (.int .i64 n_1)) (u2 := (.int .i64 high_3)) (.bool (decide (n_1 ≤ high_3))) rfl rfl rfl rfl ?_)
    refine g_v2 (t1 := 10) (t2 := 13) (u1 := (.bool true)) (u2 := (.bool (decide (n_1 ≤ high_3)))) (.bool (decide (n_1 ≤ high_3))) (Eq.trans (b := .bool (decide (n_1 ≥ low_2))) rfl (congrArg V.bool hg4)) rfl rfl rfl ?_
    refine g_v1 (t := 14) (u := (.bool (decide (n_1 ≤ high_3)))) (.bool (decide (n_1 ≤ high_3))) rfl rfl rfl ?_
    refine g_end ?_
    refine e_end ?_
    refine renew [(6, (.bool (decide (n_1 ≤ high_3))))] rfl ?_
    rintro s h6
    refine .nsq ?_
    refine .ret ?_
    have hr := Option.some.inj h
    subst hr
    exact rrA (res_tmp h6) rfl
  · refine g_no (Eq.trans (b := .bool (decide (n_1 ≥ low_2))) rfl (congrArg V.bool hg4)) ?_
    refine g_no (Eq.trans (b := .bool (decide (n_1 ≥ low_2))) rfl (congrArg V.bool hg4)) ?_
    refine g_no (Eq.trans (b := .bool (decide (n_1 ≥ low_2))) rfl (congrArg V.bool hg4)) ?_
    refine g_v2 (t1 := 10) (t2 := 13) (u1 := (.bool false)) (u2 := (.tup [])) (.bool false) (Eq.trans (b := .bool (decide (n_1 ≥ low_2))) rfl (congrArg V.bool hg4)) rfl rfl rfl ?_
    refine g_v1 (t := 14) (u := (.bool false)) (.bool false) rfl rfl rfl ?_
    refine g_end ?_
    refine e_end ?_
    refine renew [(6, (.bool false))] rfl ?_
    rintro s h6
    refine .nsq ?_
    refine .ret ?_
    have hr := Option.some.inj h
    subst hr
    exact rrA (res_tmp h6) rfl
end
def e62 (F : Nat) : Ent := ⟨62, da (fun (x : (Int × Int × Int × Unit)) => i_within F x.1 x.2.1 x.2.2.1) (fun (r : Bool) => (Enc.enc (r : Bool))), 0, false, selF []⟩
theorem p62 {F : Nat} {x0 : Int} {x1 : Int} {x2 : Int} {r : Bool} (h : i_within F x0 x1 x2 = some r) : (e62 F).den [Enc.enc x0, Enc.enc x1, Enc.enc x2] = some (Enc.enc (r : Bool)) := da_put (f := fun (x : (Int × Int × Int × Unit)) => i_within F x.1 x.2.1 x.2.2.1) (t := fun (r : Bool) => (Enc.enc (r : Bool))) (x0, x1, x2, ()) h
theorem o62 {D : Den} {σ : Sig} {F : Nat} (hF : Fits2 Try.prog D σ) (H : H62 D σ F) : (e62 F).Ok Try.prog := by
  refine ⟨fun args r h => ?_, ⟨Try.f62, Try.func62, rfl, rfl⟩⟩
  obtain ⟨⟨x0, x1, x2, _⟩, y, rfl, hy, rfl⟩ := da_open h
  exact contract_run hF (by kernel_rfl) Try.func62 rfl c62 (show 3 ≤ Try.f62.ntmps by decide) (t62 H x0 x1 x2 _ ⟨rfl, rfl, rfl⟩ hy)
/- cmp.isNaN[int] -/
def A131_1 : AC := (AC.seq (AC.reg [] [(I.mk (some 3) none false (X.v (A.mov (O.t 0)))), (I.mk (some 4) none false (X.v (A.mov (O.t 0)))), (I.mk (some 5) none false (X.v (A.bin BinOp.neq (O.t 3) (O.t 4)))), (I.mk (some 2) none false (X.v (A.mov (O.t 5))))] []) AC.ret)
def A131 : AC := (AC.seq (AC.reg [] [(I.mk (some 2) none false (X.v (A.mov (O.k (V.bool false)))))] []) A131_1)
def an131 : List An := []
theorem c131 : cC Try.prog Try.f131.ntmps an131 (Try.f131.body.getD .skip) = some A131 := by kernel_rfl
structure H131 (D : Den) (σ : Sig) (F : Nat) : Prop where
  mk ::
abbrev R131 (r : Bool) : (Nat → V) → Prop := RR Try.prog [.tmp 2] 0 false (Enc.enc (r : Bool))
section
variable {D : Den} {σ : Sig} {F : Nat} {r : Bool}
def cmp_isNaN_int (F : Nat) (x_1 : Int) : Option Bool :=
  some (x_1 != x_1)
theorem t131 (H : H131 D σ F) (x_1 : Int) (s : Nat → V) (hs : Facts [(0, (.int .i64 x_1))] s) (h : cmp_isNaN_int F x_1 = some r) : Run D σ (R131 r) (.run A131 []) s := by
  unfold cmp_isNaN_int at h
  have h0 := hs
  refine .seq ?_
  refine run_reg ?_
  refine e_end ?_
  refine g_v0 (.bool false) rfl rfl ?_
  refine g_end ?_
  refine e_end ?_
  refine renew [(0, (.int .i64 x_1)), (2, (.bool false))] ⟨h0, rfl⟩ ?_
  rintro s ⟨h0, h2⟩
  refine .nsq ?_
  refine .seq ?_
  refine run_reg ?_
  refine e_end ?_
  refine g_v1 (t := 0) (u := (.int .i64 x_1)) (.int .i64 x_1) h0 rfl rfl ?_
  refine g_v1 (t := 0) (u := (.int .i64 x_1)) (.int .i64 x_1) h0 rfl rfl ?_
  refine g_v2 (t1 := 3) (t2 := 4) (u1 := (.int .i64 x_1)) (u2 := (.int .i64 x_1)) (.bool (x_1 != x_1)) rfl rfl rfl rfl ?_
  refine g_v1 (t := 5) (u := (.bool (x_1 != x_1))) (.bool (x_1 != x_1)) rfl rfl rfl ?_
  refine g_end ?_
  refine e_end ?_
  refine renew [(2, (.bool (x_1 != x_1)))] rfl ?_
  rintro s h2
  refine .nsq ?_
  refine .ret ?_
  have hr := Option.some.inj h
  subst hr
  exact rrA (res_tmp h2) rfl
end
def e131 (F : Nat) : Ent := ⟨131, da (fun (x : (Int × Unit)) => cmp_isNaN_int F x.1) (fun (r : Bool) => (Enc.enc (r : Bool))), 0, false, selF []⟩
theorem p131 {F : Nat} {x0 : Int} {r : Bool} (h : cmp_isNaN_int F x0 = some r) : (e131 F).den [Enc.enc x0] = some (Enc.enc (r : Bool)) := da_put (f := fun (x : (Int × Unit)) => cmp_isNaN_int F x.1) (t := fun (r : Bool) => (Enc.enc (r : Bool))) (x0, ()) h
theorem o131 {D : Den} {σ : Sig} {F : Nat} (hF : Fits2 Try.prog D σ) (H : H131 D σ F) : (e131 F).Ok Try.prog := by
  refine ⟨fun args r h => ?_, ⟨Try.f131, Try.func131, rfl, rfl⟩⟩
  obtain ⟨⟨x0, _⟩, y, rfl, hy, rfl⟩ := da_open h
  exact contract_run hF (by kernel_rfl) Try.func131 rfl c131 (show 1 ≤ Try.f131.ntmps by decide) (t131 H x0 _ rfl hy)
/- cmp.Compare[int] -/
def A114_5 : AC := (AC.cond (O.t 12) (AC.seq (AC.reg [] [(I.mk (some 4) none false (X.v (A.mov (O.k (V.int IntKind.i64 (Int.ofNat 0))))))] []) AC.ret) AC.skip)
def A114_6 : AC := (AC.seq (AC.reg [] [(I.mk (some 4) none false (X.v (A.mov (O.k (V.int IntKind.i64 (Int.negSucc 0))))))] []) AC.ret)
def A114_4 : AC := (AC.cond (O.t 11) (AC.seq (AC.seq (AC.reg [] [(I.mk (some 12) none false (X.v (A.mov (O.t 6))))] []) A114_5) A114_6) AC.skip)
def A114_8 : AC := (AC.cond (O.t 13) (AC.seq (AC.reg [] [(I.mk (some 4) none false (X.v (A.mov (O.k (V.int IntKind.i64 (Int.ofNat 1))))))] []) AC.ret) AC.skip)
def A114_10 : AC := (AC.cond (O.t 16) (AC.seq (AC.reg [] [(I.mk (some 4) none false (X.v (A.mov (O.k (V.int IntKind.i64 (Int.negSucc 0))))))] []) AC.ret) AC.skip)
def A114_12 : AC := (AC.cond (O.t 19) (AC.seq (AC.reg [] [(I.mk (some 4) none false (X.v (A.mov (O.k (V.int IntKind.i64 (Int.ofNat 1))))))] []) AC.ret) AC.skip)
def A114_13 : AC := (AC.seq (AC.reg [] [(I.mk (some 4) none false (X.v (A.mov (O.k (V.int IntKind.i64 (Int.ofNat 0))))))] []) AC.ret)
def A114_11 : AC := (AC.seq (AC.seq (AC.reg [] [(I.mk (some 17) none false (X.v (A.mov (O.t 0)))), (I.mk (some 18) none false (X.v (A.mov (O.t 1)))), (I.mk (some 19) none false (X.v (A.bin BinOp.gtr (O.t 17) (O.t 18))))] []) A114_12) A114_13)
def A114_9 : AC := (AC.seq (AC.seq (AC.reg [] [(I.mk (some 14) none false (X.v (A.mov (O.t 0)))), (I.mk (some 15) none false (X.v (A.mov (O.t 1)))), (I.mk (some 16) none false (X.v (A.bin BinOp.lss (O.t 14) (O.t 15))))] []) A114_10) A114_11)
def A114_7 : AC := (AC.seq (AC.seq (AC.reg [] [(I.mk (some 13) none false (X.v (A.mov (O.t 6))))] []) A114_8) A114_9)
def A114_3 : AC := (AC.seq (AC.seq (AC.reg [] [(I.mk (some 11) none false (X.v (A.mov (O.t 5))))] []) A114_4) A114_7)
def A114_2 : AC := (AC.seq (AC.reg [] [(I.mk (some 9) none false (X.v (A.mov (O.t 1)))), (I.mk (some 10) none false (X.call (O.k (V.fn 131 [] [])) [(O.t 9)])), (I.mk (some 6) none false (X.v (A.mov (O.t 10))))] []) A114_3)
def A114_1 : AC := (AC.seq (AC.reg [] [(I.mk (some 7) none false (X.v (A.mov (O.t 0)))), (I.mk (some 8) none false (X.call (O.k (V.fn 131 [] [])) [(O.t 7)])), (I.mk (some 5) none false (X.v (A.mov (O.t 8))))] []) A114_2)
def A114 : AC := (AC.seq (AC.reg [] [(I.mk (some 4) none false (X.v (A.mov (O.k (V.int IntKind.i64 (Int.ofNat 0))))))] []) A114_1)
def an114 : List An := []
theorem c114 : cC Try.prog Try.f114.ntmps an114 (Try.f114.body.getD .skip) = some A114 := by kernel_rfl
structure H114 (D : Den) (σ : Sig) (F : Nat) : Prop where
  c131 : ∀ (x0 : Int) r, cmp_isNaN_int F x0 = some r → D 131 [Enc.enc x0] = some (Enc.enc (r : Bool))
  g131 : σ 131 = some (0, false)
abbrev R114 (r : Int) : (Nat → V) → Prop := RR Try.prog [.tmp 4] 0 false (Enc.enc (r : Int))
section
variable {D : Den} {σ : Sig} {F : Nat} {r : Int}
def cmp_Compare_int (F : Nat) (x_1 : Int) (y_2 : Int) : Option Int :=
  (cmp_isNaN_int F x_1).bind fun r_3 =>
  (cmp_isNaN_int F y_2).bind fun r_4 =>
  bif r_3 then
    bif r_4 then
      some 0
    else
      some (-1)
  else
    bif r_4 then
      some 1
    else
      bif decide (x_1 < y_2) then
        some (-1)
      else
        bif decide (x_1 > y_2) then
          some 1
        else
          some 0
theorem t114 (H : H114 D σ F) (x_1 : Int) (y_2 : Int) (s : Nat → V) (hs : Facts [(0, (.int .i64 x_1)), (1, (.int .i64 y_2))] s) (h : cmp_Compare_int F x_1 y_2 = some r) : Run D σ (R114 r) (.run A114 []) s := by
  unfold cmp_Compare_int at h
  obtain ⟨h0, h1⟩ := hs
  refine .seq ?_
  refine run_reg ?_
  refine e_end ?_
  refine g_v0 (.int .i64 0) rfl rfl ?_
  refine g_end ?_
  refine e_end ?_
  refine renew [(0, (.int .i64 x_1)), (1, (.int .i64 y_2)), (4, (.int .i64 0))] ⟨h0, h1, rfl⟩ ?_
  rintro s ⟨h0, h1, h4⟩
  refine .nsq ?_
  refine .seq ?_
  refine run_reg ?_
  refine e_end ?_
  refine g_v1 (t := 0) (u := (.int .i64 x_1)) (.int .i64 x_1) h0 rfl rfl ?_
  obtain ⟨r_3, E_r_3, h⟩ := bind_some h
  refine g_call (m := 0) (al := false) (r := (Enc.enc (r_3 : Bool))) [Enc.enc (x_1 : Int)] (ta_cons (v := (.int .i64 x_1)) rfl rfl rfl ta_nil) (H.c131 _ _ E_r_3) H.g131 rfl rfl rfl rfl ?_
  refine g_v1 (t := 8) (u := (.bool r_3)) (.bool r_3) rfl rfl rfl ?_
  refine g_end ?_
  refine e_end ?_
  refine renew [(0, (.int .i64 x_1)), (1, (.int .i64 y_2)), (4, (.int .i64 0)), (5, (.bool r_3))] ⟨h0, h1, h4, rfl⟩ ?_
  rintro s ⟨h0, h1, h4, h5⟩
  refine .nsq ?_
  refine .seq ?_
  refine run_reg ?_
  refine e_end ?_
  refine g_v1 (t := 1) (u := (.int .i64 y_2)) (.int .i64 y_2) h1 rfl rfl ?_
  obtain ⟨r_4, E_r_4, h⟩ := bind_some h
  refine g_call (m := 0) (al := false) (r := (Enc.enc (r_4 : Bool))) [Enc.enc (y_2 : Int)] (ta_cons (v := (.int .i64 y_2)) rfl rfl rfl ta_nil) (H.c131 _ _ E_r_4) H.g131 rfl rfl rfl rfl ?_
  refine g_v1 (t := 10) (u := (.bool r_4)) (.bool r_4) rfl rfl rfl ?_
  refine g_end ?_
  refine e_end ?_
  refine renew [(0, (.int .i64 x_1)), (1, (.int .i64 y_2)), (4, (.int .i64 0)), (5, (.bool r_3)), (6, (.bool r_4))] ⟨h0, h1, h4, h5, rfl⟩ ?_
  rintro s ⟨h0, h1, h4, h5, h6⟩
  refine .nsq ?_
  refine .seq ?_
  refine .seq ?_
  refine run_reg ?_
  refine e_end ?_
  refine g_v1 (t := 5) (u := (.bool r_3)) (.bool r_3) h5 rfl rfl ?_
  refine g_end ?_
  refine e_end ?_
  refine renew [(0, (.int .i64 x_1)), (1, (.int .i64 y_2)), (4, (.int .i64 0)), (6, (.bool r_4)), (11, (.bool r_3))] ⟨h0, h1, h4, h6, rfl⟩ ?_
  rintro s ⟨h0, h1, h4, h6, h11⟩
  refine .nsq ?_
  refine run_cond (t := r_3) h11 h (fun h => ?_) (fun h => ?_)
  · refine .seq ?_
    refine .seq ?_
    refine run_reg ?_
    refine e_end ?_
    refine g_v1 (t := 6) (u := (.bool r_4)) (.bool r_4) h6 rfl rfl ?_
    refine g_end ?_
    refine e_end ?_
    refine renew [(0, (.int .i64 x_1)), (1, (.int .i64 y_2)), (4, (.int .i64 0)), (6, (.bool r_4)), (12, (.bool r_4))] ⟨h0, h1, h4, h6, rfl⟩ ?_
    rintro s ⟨h0, h1, h4, h6, h12⟩
    refine .nsq ?_
    refine run_cond (t := r_4) h12 h (fun h => ?_) (fun h => ?_)
    · refine .seq ?_
      refine run_reg ?_
      refine e_end ?_
      refine g_v0 (.int .i64 0) rfl rfl ?_
      refine g_end ?_
      refine e_end ?_
      refine renew [(0, (.int .i64 x_1)), (1, (.int .i64 y_2)), (4, (.int .i64 0)), (6, (.bool r_4))] ⟨h0, h1, rfl, h6⟩ ?_
      rintro s ⟨h0, h1, h4, h6⟩
      refine .nsq ?_
      refine .ret ?_
      have hr := Option.some.inj h
      subst hr
      exact rrA (res_tmp h4) rfl
    · refine .skip ?_
      refine .nsq ?_
      refine .seq ?_
      refine run_reg ?_
      refine e_end ?_
      refine g_v0 (.int .i64 (-1)) rfl rfl ?_
      refine g_end ?_
      refine e_end ?_
      refine renew [(0, (.int .i64 x_1)), (1, (.int .i64 y_2)), (4, (.int .i64 (-1))), (6, (.bool r_4))] ⟨h0, h1, rfl, h6⟩ ?_
      rintro s ⟨h0, h1, h4, h6⟩
      refine .nsq ?_
      refine .ret ?_
      have hr := Option.some.inj h
      subst hr
      exact rrA (res_tmp h4) rfl
  · refine .skip ?_
    refine .nsq ?_
    refine .seq ?_
    refine .seq ?_
    refine run_reg ?_
    refine e_end ?_
    refine g_v1 (t := 6) (u := (.bool r_4)) (.bool r_4) h6 rfl rfl ?_
    refine g_end ?_
    refine e_end ?_
    refine renew [(0, (.int .i64 x_1)), (1, (.int .i64 y_2)), (4, (.int .i64 0)), (13, (.bool r_4))] ⟨h0, h1, h4, rfl⟩ ?_
    rintro s ⟨h0, h1, h4, h13⟩
    refine .nsq ?_
    refine run_cond (t := r_4) h13 h (fun h => ?_) (fun h => ?_)
    · refine .seq ?_
      refine run_reg ?_
      refine e_end ?_
      refine g_v0 (.int .i64 1) rfl rfl ?_
      refine g_end ?_
      refine e_end ?_
      refine renew [(0, (.int .i64 x_1)), (1, (.int .i64 y_2)), (4, (.int .i64 1))] ⟨h0, h1, rfl⟩ ?_
      rintro s ⟨h0, h1, h4⟩
      refine .nsq ?_
      refine .ret ?_
      have hr := Option.some.inj h
      subst hr
      exact rrA (res_tmp h4) rfl
    · refine .skip ?_
      refine .nsq ?_
      refine .seq ?_
      refine .seq ?_
      refine run_reg ?_
      refine e_end ?_
      refine g_v1 (t := 0) (u := (.int .i64 x_1)) (.int .i64 x_1) h0 rfl rfl ?_
      refine g_v1 (t := 1) (u := (.int .i64 y_2)) (.int .i64 y_2) h1 rfl rfl ?_
      refine g_v2 (t1 := 14) (t2 := 15) (u1 := (.int .i64 x_1)) (u2 := (.int .i64 y_2)) (.bool (decide (x_1 < y_2))) rfl rfl rfl rfl ?_
      refine g_end ?_
      refine e_end ?_
      refine renew [(0, (.int .i64 x_1)), (1, (.int .i64 y_2)), (4, (.int .i64 0)), (16, (.bool (decide (x_1 < y_2))))] ⟨h0, h1, h4, rfl⟩ ?_
      rintro s ⟨h0, h1, h4, h16⟩
      refine .nsq ?_
      refine run_cond (t := decide (x_1 < y_2)) h16 h (fun h => ?_) (fun h => ?_)
      · refine .seq ?_
        refine run_reg ?_
        refine e_end ?_
        refine g_v0 (.int .i64 (-1)) rfl rfl ?_
        refine g_end ?_
        refine e_end ?_
        refine renew [(0, (.int .i64 x_1)), (1, (.int .i64 y_2)), (4, (.int .i64 (-1)))] ⟨h0, h1, rfl⟩ ?_
        rintro s ⟨h0, h1, h4⟩
        refine .nsq ?_
        refine .ret ?_
        have hr := Option.some.inj h
        subst hr
        exact rrA (res_tmp h4) rfl
      · refine .skip ?_
        refine .nsq ?_
        refine .seq ?_
        refine .seq ?_
        refine run_reg ?_
        refine e_end ?_
        refine g_v1 (t := 0) (u := (.int .i64 x_1)) (.int .i64 x_1) h0 rfl rfl ?_
        refine g_v1 (t := 1) (u := (.int .i64 y_2)) (.int .i64 y_2) h1 rfl rfl ?_
        refine g_v2 (t1 := 17) (t2 := 18) (u1 := (.int .i64 x_1)) (u2 := (.int .i64 y_2)) (.bool (decide (x_1 > y_2))) rfl rfl rfl rfl ?_
        refine g_end ?_
        refine e_end ?_
        refine renew [(4, (.int .i64 0)), (19, (.bool (decide (x_1 > y_2))))] ⟨h4, rfl⟩ ?_
        rintro s ⟨h4, h19⟩
        refine .nsq ?_
        refine run_cond (t := decide (x_1 > y_2)) h19 h (fun h => ?_) (fun h => ?_)
        · refine .seq ?_
          refine run_reg ?_
          refine e_end ?_
          refine g_v0 (.int .i64 1) rfl rfl ?_
          refine g_end ?_
          refine e_end ?_
          refine renew [(4, (.int .i64 1))] rfl ?_
          rintro s h4
          refine .nsq ?_
          refine .ret ?_
          have hr := Option.some.inj h
          subst hr
          exact rrA (res_tmp h4) rfl
        · refine .skip ?_
          refine .nsq ?_
          refine .seq ?_
          refine run_reg ?_
          refine e_end ?_
          refine g_v0 (.int .i64 0) rfl rfl ?_
          refine g_end ?_
          refine e_end ?_
          refine renew [(4, (.int .i64 0))] rfl ?_
          rintro s h4
          refine .nsq ?_
          refine .ret ?_
          have hr := Option.some.inj h
          subst hr
          exact rrA (res_tmp h4) rfl
end
def e114 (F : Nat) : Ent := ⟨114, da (fun (x : (Int × Int × Unit)) => cmp_Compare_int F x.1 x.2.1) (fun (r : Int) => (Enc.enc (r : Int))), 0, false, selF []⟩
theorem p114 {F : Nat} {x0 : Int} {x1 : Int} {r : Int} (h : cmp_Compare_int F x0 x1 = some r) : (e114 F).den [Enc.enc x0, Enc.enc x1] = some (Enc.enc (r : Int)) := da_put (f := fun (x : (Int × Int × Unit)) => cmp_Compare_int F x.1 x.2.1) (t := fun (r : Int) => (Enc.enc (r : Int))) (x0, x1, ()) h
theorem o114 {D : Den} {σ : Sig} {F : Nat} (hF : Fits2 Try.prog D σ) (H : H114 D σ F) : (e114 F).Ok Try.prog := by
  refine ⟨fun args r h => ?_, ⟨Try.f114, Try.func114, rfl, rfl⟩⟩
  obtain ⟨⟨x0, x1, _⟩, y, rfl, hy, rfl⟩ := da_open h
  exact contract_run hF (by kernel_rfl) Try.func114 rfl c114 (show 2 ≤ Try.f114.ntmps by decide) (t114 H x0 x1 _ ⟨rfl, rfl⟩ hy)
/- slices.Compare[[]int,int] -/
def A81_5 : AC := (AC.cond (O.t 19) (AC.seq (AC.reg [] [(I.mk (some 4) none false (X.v (A.mov (O.k (V.int IntKind.i64 (Int.ofNat 1))))))] []) AC.ret) AC.skip)
def A81_9 : AC := (AC.cond (O.t 28) (AC.seq (AC.reg [] [(I.mk (some 29) none false (X.v (A.mov (O.t 8)))), (I.mk (some 4) none false (X.v (A.mov (O.t 29))))] []) AC.ret) AC.skip)
def A81_8 : AC := (AC.seq (AC.reg [] [(I.mk (some 27) none false (X.v (A.mov (O.t 8)))), (I.mk (some 28) none false (X.v (A.bin BinOp.neq (O.t 27) (O.k (V.int IntKind.i64 (Int.ofNat 0))))))] []) A81_9)
def A81_7 : AC := (AC.seq (AC.reg [] [(I.mk (some 24) none false (X.v (A.mov (O.t 6)))), (I.mk (some 25) none false (X.v (A.mov (O.t 7)))), (I.mk (some 26) none false (X.call (O.k (V.fn 114 [] [])) [(O.t 24), (O.t 25)])), (I.mk (some 8) none false (X.v (A.mov (O.t 26))))] []) A81_8)
def A81_6 : AC := (AC.seq (AC.reg [] [(I.mk (some 20) none false (X.v (A.mov (O.t 1)))), (I.mk (some 21) none false (X.v (A.mov (O.t 5)))), (I.mk (some 22) none false (X.v (A.idx (O.t 20) (O.t 21) 1))), (I.mk (some 23) none false (X.v (A.load Sh.s (O.t 22)))), (I.mk (some 7) none false (X.v (A.mov (O.t 23))))] []) A81_7)
def A81_4 : AC := (AC.seq (AC.seq (AC.reg [] [(I.mk (some 16) none false (X.v (A.mov (O.t 5)))), (I.mk (some 17) none false (X.v (A.mov (O.t 1)))), (I.mk (some 18) none false (X.v (A.len (O.t 17)))), (I.mk (some 19) none false (X.v (A.bin BinOp.geq (O.t 16) (O.t 18))))] []) A81_5) A81_6)
def A81_10 : AC := (AC.reg [] [(I.mk (some 30) none false (X.v (A.bin BinOp.add (O.t 11) (O.k (V.int IntKind.i64 (Int.ofNat 1)))))), (I.mk (some 11) none false (X.v (A.mov (O.t 30))))] [])
def A81_3 : AC := (AC.seq (AC.block 1 (AC.seq (AC.reg [] [(I.mk (some 13) none false (X.v (A.mov (O.t 11)))), (I.mk (some 14) none false (X.v (A.idx (O.t 9) (O.t 11) 1))), (I.mk (some 15) none false (X.v (A.load Sh.s (O.t 14)))), (I.mk (some 5) none false (X.v (A.mov (O.t 13)))), (I.mk (some 6) none false (X.v (A.mov (O.t 15))))] []) A81_4)) A81_10)
def A81_2 : AC := (AC.seq (AC.cond (O.t 12) AC.skip (AC.exit 0)) A81_3)
def A81_1 : AC := (AC.seq (AC.reg [] [(I.mk (some 12) none false (X.v (A.bin BinOp.lss (O.t 11) (O.t 10))))] []) A81_2)
def A81_12 : AC := (AC.cond (O.t 35) (AC.seq (AC.reg [] [(I.mk (some 4) none false (X.v (A.mov (O.k (V.int IntKind.i64 (Int.negSucc 0))))))] []) AC.ret) AC.skip)
def A81_13 : AC := (AC.seq (AC.reg [] [(I.mk (some 4) none false (X.v (A.mov (O.k (V.int IntKind.i64 (Int.ofNat 0))))))] []) AC.ret)
def A81_11 : AC := (AC.seq (AC.seq (AC.reg [] [(I.mk (some 31) none false (X.v (A.mov (O.t 0)))), (I.mk (some 32) none false (X.v (A.len (O.t 31)))), (I.mk (some 33) none false (X.v (A.mov (O.t 1)))), (I.mk (some 34) none false (X.v (A.len (O.t 33)))), (I.mk (some 35) none false (X.v (A.bin BinOp.lss (O.t 32) (O.t 34))))] []) A81_12) A81_13)
def A81_15 : AC := (AC.block 0 (AC.loop A81_1))
def A81_14 : AC := (AC.seq (AC.seq (AC.reg [] [(I.mk (some 9) none false (X.v (A.mov (O.t 0)))), (I.mk (some 10) none false (X.v (A.len (O.t 9)))), (I.mk (some 11) none false (X.v (A.mov (O.k (V.int IntKind.i64 (Int.ofNat 0))))))] []) A81_15) A81_11)
def A81 : AC := (AC.seq (AC.reg [] [(I.mk (some 4) none false (X.v (A.mov (O.k (V.int IntKind.i64 (Int.ofNat 0))))))] []) A81_14)
def an81 : List An := []
theorem c81 : cC Try.prog Try.f81.ntmps an81 (Try.f81.body.getD .skip) = some A81 := by kernel_rfl
structure H81 (D : Den) (σ : Sig) (F : Nat) : Prop where
  c114 : ∀ (x0 : Int) (x1 : Int) r, cmp_Compare_int F x0 x1 = some r → D 114 [Enc.enc x0, Enc.enc x1] = some (Enc.enc (r : Int))
  g114 : σ 114 = some (0, false)
abbrev R81 (r : Int) : (Nat → V) → Prop := RR Try.prog [.tmp 4] 0 false (Enc.enc (r : Int))
section
variable {D : Den} {σ : Sig} {F : Nat} {r : Int}
def slices_Compare_l1 (F : Nat) (s1_1 : (List Int)) (s2_2 : (List Int))  : Nat → Int → Option Int
  | 0, _ => none
  | k + 1, t11_6 =>
    bif decide (t11_6 < (s1_1.length : Int)) then
      (idx s1_1 t11_6).bind fun e_10 =>
      bif decide (t11_6 ≥ (s2_2.length : Int)) then
        some 1
      else
        (idx s2_2 t11_6).bind fun e_11 =>
        (cmp_Compare_int F e_10 e_11).bind fun r_12 =>
        bif (r_12 != 0) then
          some r_12
        else
          (slices_Compare_l1 F s1_1 s2_2 k) (w64 (t11_6 + 1))
    else
      bif decide ((s1_1.length : Int) < (s2_2.length : Int)) then
        some (-1)
      else
        some 0
theorem t_f81_l1 (H : H81 D σ F) (s1_1 : (List Int)) (s2_2 : (List Int))  : ∀ (k : Nat) (t11_6 : Int) (s : Nat → V), Facts [(0, (Enc.enc (s1_1 : List Int))), (1, (Enc.enc (s2_2 : List Int))), (4, (.int .i64 0)), (9, (Enc.enc (s1_1 : List Int))), (10, (.int .i64 (s1_1.length : Int))), (11, (.int .i64 t11_6))] s → slices_Compare_l1 F s1_1 s2_2 k t11_6 = some r → Run D σ (R81 r) (.run A81_1 [.lp A81_1, .bk 0, .sq A81_11]) s := by
  intro k
  induction k with
  | zero => intro t11_6 s _ h; exact nomatch (h : (none : Option _) = some r)
  | succ k ih =>
    intro t11_6 s hs h
    rw [slices_Compare_l1] at h
    obtain ⟨h0, h1, h4, h9, h10, h11⟩ := hs
    refine .seq ?_
    refine run_reg ?_
    refine e_end ?_
    refine g_v2 (t1 := 11) (t2 := 10) (u1 := (.int .i64 t11_6)) (u2 := (.int .i64 (s1_1.length : Int))) (.bool (decide (t11_6 < (s1_1.length : Int)))) h11 h10 rfl rfl ?_
    refine g_end ?_
    refine e_end ?_
    refine renew [(0, (Enc.enc (s1_1 : List Int))), (1, (Enc.enc (s2_2 : List Int))), (4, (.int .i64 0)), (9, (Enc.enc (s1_1 : List Int))), (10, (.int .i64 (s1_1.length : Int))), (11, (.int .i64 t11_6)), (12, (.bool (decide (t11_6 < (s1_1.length : Int)))))] ⟨h0, h1, h4, h9, h10, h11, rfl⟩ ?_
    rintro s ⟨h0, h1, h4, h9, h10, h11, h12⟩
    refine .nsq ?_
    refine .seq ?_
    refine run_cond (t := decide (t11_6 < (s1_1.length : Int))) h12 h (fun h => ?_) (fun h => ?_)
    · refine .skip ?_
      refine .nsq ?_
      refine .seq ?_
      refine .block ?_
      refine .seq ?_
      refine run_reg ?_
      refine e_end ?_
      refine g_v1 (t := 11) (u := (.int .i64 t11_6)) (.int .i64 t11_6) h11 rfl rfl ?_
      obtain ⟨e_10, E_e_10, h⟩ := bind_some h
      refine g_v (.ref .sh 0 [] (.int .i64 e_10)) (ev_idx (t := .sh) (lo := 0) (xs := s1_1) h9 h11 E_e_10 rfl rfl) ?_
      refine g_v1 (t := 14) (u := (.ref .sh 0 [] (.int .i64 e_10))) (.int .i64 e_10) rfl rfl rfl ?_
      refine g_v1 (t := 13) (u := (.int .i64 t11_6)) (.int .i64 t11_6) rfl rfl rfl ?_
      refine g_v1 (t := 15) (u := (.int .i64 e_10)) (.int .i64 e_10) rfl rfl rfl ?_
      refine g_end ?_
      refine e_end ?_
      refine renew [(0, (Enc.enc (s1_1 : List Int))), (1, (Enc.enc (s2_2 : List Int))), (4, (.int .i64 0)), (5, (.int .i64 t11_6)), (6, (.int .i64 e_10)), (9, (Enc.enc (s1_1 : List Int))), (10, (.int .i64 (s1_1.length : Int))), (11, (.int .i64 t11_6))] ⟨h0, h1, h4, rfl, rfl, h9, h10, h11⟩ ?_
      rintro s ⟨h0, h1, h4, h5, h6, h9, h10, h11⟩
      refine .nsq ?_
      refine .seq ?_
      refine .seq ?_
      refine run_reg ?_
      refine e_end ?_
      refine g_v1 (t := 5) (u := (.int .i64 t11_6)) (.int .i64 t11_6) h5 rfl rfl ?_
      refine g_v1 (t := 1) (u := (Enc.enc (s2_2 : List Int))) (Enc.enc (s2_2 : List Int)) h1 rfl rfl ?_
      refine g_v (.int .i64 (s2_2.length : Int)) (ev_len (xs := s2_2) rfl) ?_
      refine g_v2 (t1 := 16) (t2 := 18) (u1 := (.int .i64 t11_6)) (u2 := (.int .i64 (s2_2.length : Int))) (.bool (decide (t11_6 ≥ (s2_2.length : Int)))) rfl rfl rfl rfl ?_
      refine g_end ?_
      refine e_end ?_
      refine renew [(0, (Enc.enc (s1_1 : List Int))), (1, (Enc.enc (s2_2 : List Int))), (4, (.int .i64 0)), (5, (.int .i64 t11_6)), (6, (.int .i64 e_10)), (9, (Enc.enc (s1_1 : List Int))), (10, (.int .i64 (s1_1.length : Int))), (11, (.int .i64 t11_6)), (19, (.bool (decide (t11_6 ≥ (s2_2.length : Int)))))] ⟨h0, h1, h4, h5, h6, h9, h10, h11, rfl⟩ ?_
      rintro s ⟨h0, h1, h4, h5, h6, h9, h10, h11, h19⟩
      refine .nsq ?_
      refine run_cond (t := decide (t11_6 ≥ (s2_2.length : Int))) h19 h (fun h => ?_) (fun h => ?_)
      · refine .seq ?_
        refine run_reg ?_
        refine e_end ?_
        refine g_v0 (.int .i64 1) rfl rfl ?_
        refine g_end ?_
        refine e_end ?_
        refine renew [(0, (Enc.enc (s1_1 : List Int))), (1, (Enc.enc (s2_2 : List Int))), (4, (.int .i64 1)), (5, (.int .i64 t11_6)), (6, (.int .i64 e_10)), (9, (Enc.enc (s1_1 : List Int))), (10, (.int .i64 (s1_1.length : Int))), (11, (.int .i64 t11_6))] ⟨h0, h1, rfl, h5, h6, h9, h10, h11⟩ ?_
        rintro s ⟨h0, h1, h4, h5, h6, h9, h10, h11⟩
        refine .nsq ?_
        refine .ret ?_
        have hr := Option.some.inj h
        subst hr
        exact rrA (res_tmp h4) rfl
      · refine .skip ?_
        refine .nsq ?_
        refine .seq ?_
        refine run_reg ?_
        refine e_end ?_
        refine g_v1 (t := 1) (u := (Enc.enc (s2_2 : List Int))) (Enc.enc (s2_2 : List Int)) h1 rfl rfl ?_
        refine g_v1 (t := 5) (u := (.int .i64 t11_6)) (.int .i64 t11_6) h5 rfl rfl ?_
        obtain ⟨e_11, E_e_11, h⟩ := bind_some h
        refine g_v (.ref .sh 0 [] (.int .i64 e_11)) (ev_idx (t := .sh) (lo := 0) (xs := s2_2) rfl rfl E_e_11 rfl rfl) ?_
        refine g_v1 (t := 22) (u := (.ref .sh 0 [] (.int .i64 e_11))) (.int .i64 e_11) rfl rfl rfl ?_
        refine g_v1 (t := 23) (u := (.int .i64 e_11)) (.int .i64 e_11) rfl rfl rfl ?_
        refine g_end ?_
        refine e_end ?_
        refine renew [(0, (Enc.enc (s1_1 : List Int))), (1, (Enc.enc (s2_2 : List Int))), (4, (.int .i64 0)), (6, (.int .i64 e_10)), (7, (.int .i64 e_11)), (9, (Enc.enc (s1_1 : List Int))), (10, (.int .i64 (s1_1.length : Int))), (11, (.int .i64 t11_6))] ⟨h0, h1, h4, h6, rfl, h9, h10, h11⟩ ?_
        rintro s ⟨h0, h1, h4, h6, h7, h9, h10, h11⟩
        refine .nsq ?_
        refine .seq ?_
        refine run_reg ?_
        refine e_end ?_
        refine g_v1 (t := 6) (u := (.int .i64 e_10)) (.int .i64 e_10) h6 rfl rfl ?_
        refine g_v1 (t := 7) (u := (.int .i64 e_11)) (.int .i64 e_11) h7 rfl rfl ?_
        obtain ⟨r_12, E_r_12, h⟩ := bind_some h
        refine g_call (m := 0) (al := false) (r := (Enc.enc (r_12 : Int))) [Enc.enc (e_10 : Int), Enc.enc (e_11 : Int)] (ta_cons (v := (.int .i64 e_10)) rfl rfl rfl (ta_cons (v := (.int .i64 e_11)) rfl rfl rfl ta_nil)) (H.c114 _ _ _ E_r_12) H.g114 rfl rfl rfl rfl ?_
        refine g_v1 (t := 26) (u := (.int .i64 r_12)) (.int .i64 r_12) rfl rfl rfl ?_
        refine g_end ?_
        refine e_end ?_
        refine renew [(0, (Enc.enc (s1_1 : List Int))), (1, (Enc.enc (s2_2 : List Int))), (4, (.int .i64 0)), (8, (.int .i64 r_12)), (9, (Enc.enc (s1_1 : List Int))), (10, (.int .i64 (s1_1.length : Int))), (11, (.int .i64 t11_6))] ⟨h0, h1, h4, rfl, h9, h10, h11⟩ ?_
        rintro s ⟨h0, h1, h4, h8, h9, h10, h11⟩
        refine .nsq ?_
        refine .seq ?_
        refine run_reg ?_
        refine e_end ?_
        refine g_v1 (t := 8) (u := (.int .i64 r_12)) (.int .i64 r_12) h8 rfl rfl ?_
        refine g_v1 (t := 27) (u := (.int .i64 r_12)) (.bool (r_12 != 0)) rfl rfl rfl ?_
        refine g_end ?_
        refine e_end ?_
        refine renew [(0, (Enc.enc (s1_1 : List Int))), (1, (Enc.enc (s2_2 : List Int))), (4, (.int .i64 0)), (8, (.int .i64 r_12)), (9, (Enc.enc (s1_1 : List Int))), (10, (.int .i64 (s1_1.length : Int))), (11, (.int .i64 t11_6)), (28, (.bool (r_12 != 0)))] ⟨h0, h1, h4, h8, h9, h10, h11, rfl⟩ ?_
        rintro s ⟨h0, h1, h4, h8, h9, h10, h11, h28⟩
        refine .nsq ?_
        refine run_cond (t := (r_12 != 0)) h28 h (fun h => ?_) (fun h => ?_)
        · refine .seq ?_
          refine run_reg ?_
          refine e_end ?_
          refine g_v1 (t := 8) (u := (.int .i64 r_12)) (.int .i64 r_12) h8 rfl rfl ?_
          refine g_v1 (t := 29) (u := (.int .i64 r_12)) (.int .i64 r_12) rfl rfl rfl ?_
          refine g_end ?_
          refine e_end ?_
          refine renew [(0, (Enc.enc (s1_1 : List Int))), (1, (Enc.enc (s2_2 : List Int))), (4, (.int .i64 r_12)), (9, (Enc.enc (s1_1 : List Int))), (10, (.int .i64 (s1_1.length : Int))), (11, (.int .i64 t11_6))] ⟨h0, h1, rfl, h9, h10, h11⟩ ?_
          rintro s ⟨h0, h1, h4, h9, h10, h11⟩
          refine .nsq ?_
          refine .ret ?_
          have hr := Option.some.inj h
          subst hr
          exact rrA (res_tmp h4) rfl
        · refine .skip ?_
          refine .nbk ?_
          refine .nsq ?_
          refine run_reg ?_
          refine e_end ?_
          refine g_v1 (t := 11) (u := (.int .i64 t11_6)) (.int .i64 (w64 (t11_6 + 1))) h11 rfl rfl ?_
          refine g_v1 (t := 30) (u := (.int .i64 (w64 (t11_6 + 1)))) (.int .i64 (w64 (t11_6 + 1))) rfl rfl rfl ?_
          refine g_end ?_
          refine e_end ?_
          refine renew [(0, (Enc.enc (s1_1 : List Int))), (1, (Enc.enc (s2_2 : List Int))), (4, (.int .i64 0)), (9, (Enc.enc (s1_1 : List Int))), (10, (.int .i64 (s1_1.length : Int))), (11, (.int .i64 (w64 (t11_6 + 1))))] ⟨h0, h1, h4, h9, h10, rfl⟩ ?_
          rintro s ⟨h0, h1, h4, h9, h10, h11⟩
          refine .nlp ?_
          exact ih (w64 (t11_6 + 1)) _ ⟨h0, h1, h4, h9, h10, h11⟩ h
    · refine .exit ?_
      refine .esq ?_
      refine .elp ?_
      refine .ebk ?_
      refine .nsq ?_
      refine .seq ?_
      refine .seq ?_
      refine run_reg ?_
      refine e_end ?_
      refine g_v1 (t := 0) (u := (Enc.enc (s1_1 : List Int))) (Enc.enc (s1_1 : List Int)) h0 rfl rfl ?_
      refine g_v (.int .i64 (s1_1.length : Int)) (ev_len (xs := s1_1) rfl) ?_
      refine g_v1 (t := 1) (u := (Enc.enc (s2_2 : List Int))) (Enc.enc (s2_2 : List Int)) h1 rfl rfl ?_
      refine g_v (.int .i64 (s2_2.length : Int)) (ev_len (xs := s2_2) rfl) ?_
      refine g_v2 (t1 := 32) (t2 := 34) (u1 := (.int .i64 (s1_1.length : Int))) (u2 := (.int .i64 (s2_2.length : Int))) (.bool (decide ((s1_1.length : Int) < (s2_2.length : Int)))) rfl rfl rfl rfl ?_
      refine g_end ?_
      refine e_end ?_
      refine renew [(4, (.int .i64 0)), (35, (.bool (decide ((s1_1.length : Int) < (s2_2.length : Int)))))] ⟨h4, rfl⟩ ?_
      rintro s ⟨h4, h35⟩
      refine .nsq ?_
      refine run_cond (t := decide ((s1_1.length : Int) < (s2_2.length : Int))) h35 h (fun h => ?_) (fun h => ?_)
      · refine .seq ?_
        refine run_reg ?_
        refine e_end ?_
        refine g_v0 (.int .i64 (-1)) rfl rfl ?_
        refine g_end ?_
        refine e_end ?_
        refine renew [(4, (.int .i64 (-1)))] rfl ?_
        rintro s h4
        refine .nsq ?_
        refine .ret ?_
        have hr := Option.some.inj h
        subst hr
        exact rrA (res_tmp h4) rfl
      · refine .skip ?_
        refine .nsq ?_
        refine .seq ?_
        refine run_reg ?_
        refine e_end ?_
        refine g_v0 (.int .i64 0) rfl rfl ?_
        refine g_end ?_
        refine e_end ?_
        refine renew [(4, (.int .i64 0))] rfl ?_
        rintro s h4
        refine .nsq ?_
        refine .ret ?_
        have hr := Option.some.inj h
        subst hr
        exact rrA (res_tmp h4) rfl
def slices_Compare (F : Nat) (s1_1 : (List Int)) (s2_2 : (List Int)) : Option Int :=
  slices_Compare_l1 F s1_1 s2_2 F 0
theorem t81 (H : H81 D σ F) (s1_1 : (List Int)) (s2_2 : (List Int)) (s : Nat → V) (hs : Facts [(0, (Enc.enc (s1_1 : List Int))), (1, (Enc.enc (s2_2 : List Int)))] s) (h : slices_Compare F s1_1 s2_2 = some r) : Run D σ (R81 r) (.run A81 []) s := by
  unfold slices_Compare at h
  obtain ⟨h0, h1⟩ := hs
  refine .seq ?_
  refine run_reg ?_
  refine e_end ?_
  refine g_v0 (.int .i64 0) rfl rfl ?_
  refine g_end ?_
  refine e_end ?_
  refine renew [(0, (Enc.enc (s1_1 : List Int))), (1, (Enc.enc (s2_2 : List Int))), (4, (.int .i64 0))] ⟨h0, h1, rfl⟩ ?_
  rintro s ⟨h0, h1, h4⟩
  refine .nsq ?_
  refine .seq ?_
  refine .seq ?_
  refine run_reg ?_
  refine e_end ?_
  refine g_v1 (t := 0) (u := (Enc.enc (s1_1 : List Int))) (Enc.enc (s1_1 : List Int)) h0 rfl rfl ?_
  refine g_v (.int .i64 (s1_1.length : Int)) (ev_len (xs := s1_1) rfl) ?_
  refine g_v0 (.int .i64 0) rfl rfl ?_
  refine g_end ?_
  refine e_end ?_
  refine renew [(0, (Enc.enc (s1_1 : List Int))), (1, (Enc.enc (s2_2 : List Int))), (4, (.int .i64 0)), (9, (Enc.enc (s1_1 : List Int))), (10, (.int .i64 (s1_1.length : Int))), (11, (.int .i64 0))] ⟨h0, h1, h4, rfl, rfl, rfl⟩ ?_
  rintro s ⟨h0, h1, h4, h9, h10, h11⟩
  refine .nsq ?_
  refine .block ?_
  refine .loop ?_
  exact t_f81_l1 H s1_1 s2_2 F 0 _ ⟨h0, h1, h4, h9, h10, h11⟩ h
end
def e81 (F : Nat) : Ent := ⟨81, da (fun (x : ((List Int) × (List Int) × Unit)) => slices_Compare F x.1 x.2.1) (fun (r : Int) => (Enc.enc (r : Int))), 0, false, selF []⟩
theorem p81 {F : Nat} {x0 : (List Int)} {x1 : (List Int)} {r : Int} (h : slices_Compare F x0 x1 = some r) : (e81 F).den [Enc.enc x0, Enc.enc x1] = some (Enc.enc (r : Int)) := da_put (f := fun (x : ((List Int) × (List Int) × Unit)) => slices_Compare F x.1 x.2.1) (t := fun (r : Int) => (Enc.enc (r : Int))) (x0, x1, ()) h
theorem o81 {D : Den} {σ : Sig} {F : Nat} (hF : Fits2 Try.prog D σ) (H : H81 D σ F) : (e81 F).Ok Try.prog := by
  refine ⟨fun args r h => ?_, ⟨Try.f81, Try.func81, rfl, rfl⟩⟩
  obtain ⟨⟨x0, x1, _⟩, y, rfl, hy, rfl⟩ := da_open h
  exact contract_run hF (by kernel_rfl) Try.func81 rfl c81 (show 2 ≤ Try.f81.ntmps by decide) (t81 H x0 x1 _ ⟨rfl, rfl⟩ hy)
end Go.Zq
