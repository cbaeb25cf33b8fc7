/- Functions of the program as typed functions, and that the machine runs as they say (part 2). No further condition. -/
import Derived.Test.YthblbfcloccopaaKC
import Derived.Test.YthblbfcloccopaaProg
import Derived.Test.YthblbfcloccopaaChecked
import Derived.KernelRfl
import Derived.Test.YthblbfcloccopaaG1
set_option linter.unusedVariables false
set_option linter.unusedSimpArgs false
/- Functions of the program, as typed functions, and that the machine runs as they say. -/
namespace Go.Zq
open Go.Proofs Go.Shelf
/- loop.example/g01109/spec.l5Later -/
def A129_2 : AC := (AC.cond (O.t 18) AC.skip (AC.exit 0))
def A129_7 : AC := (AC.cond (O.t 30) AC.skip (AC.exit 2))
def A129_9 : AC := (AC.cond (O.t 38) (AC.exit 3) AC.skip)
def A129_11 : AC := (AC.cond (O.t 44) (AC.reg [.clr [50, 51]] [(I.mk (some 45) none false (X.v (A.mov (O.t 8)))), (I.mk (some 46) none false (X.v (A.mov (O.t 10)))), (I.mk (some 47) none false (X.v (A.mov (O.t 11)))), (I.mk (some 48) none false (X.v (A.idx (O.t 46) (O.t 47) 1))), (I.mk (some 49) none false (X.v (A.load Sh.s (O.t 48)))), (I.mk (some 50) none false (X.lit (V.int IntKind.i64 (Int.ofNat 0)) 1 [(0, 0, (O.t 49))])), (I.mk (some 51) none false (X.app Sh.s (O.t 45) (O.t 50))), (I.mk (some 8) none false (X.v (A.mov (O.t 51))))] [.home 51 8]) (AC.reg [.frz 7] [(I.mk (some 52) none false (X.v (A.mov (O.t 7)))), (I.mk (some 53) none false (X.v (A.mov (O.t 10)))), (I.mk (some 54) none false (X.v (A.mov (O.t 11)))), (I.mk (some 55) none false (X.v (A.idx (O.t 53) (O.t 54) 1))), (I.mk (some 56) none false (X.v (A.load Sh.s (O.t 55)))), (I.mk (some 57) none false (X.call (O.k (V.fn 111 [] [])) [(O.t 52), (O.t 56)])), (I.mk (some 7) none false (X.v (A.mov (O.t 57))))] []))
def A129_10 : AC := (AC.seq (AC.reg [] [(I.mk (some 39) none false (X.v (A.mov (O.t 1)))), (I.mk (some 40) none false (X.v (A.mov (O.t 10)))), (I.mk (some 41) none false (X.v (A.mov (O.t 11)))), (I.mk (some 42) none false (X.v (A.idx (O.t 40) (O.t 41) 1))), (I.mk (some 43) none false (X.v (A.load Sh.s (O.t 42)))), (I.mk (some 44) none false (X.call (O.k (V.fn 98 [] [])) [(O.t 39), (O.t 43)]))] []) A129_11)
def A129_12 : AC := (AC.reg [] [(I.mk (some 31) none false (X.v (A.mov (O.t 11)))), (I.mk (some 32) none false (X.v (A.bin BinOp.add (O.t 31) (O.k (V.int IntKind.i64 (Int.ofNat 1)))))), (I.mk (some 11) none false (X.v (A.mov (O.t 32))))] [])
def A129_8 : AC := (AC.seq (AC.block 3 (AC.seq (AC.seq (AC.reg [] [(I.mk (some 33) none false (X.v (A.mov (O.t 8)))), (I.mk (some 34) none false (X.v (A.mov (O.t 10)))), (I.mk (some 35) none false (X.v (A.mov (O.t 11)))), (I.mk (some 36) none false (X.v (A.idx (O.t 34) (O.t 35) 1))), (I.mk (some 37) none false (X.v (A.load Sh.s (O.t 36)))), (I.mk (some 38) none false (X.call (O.k (V.fn 98 [] [])) [(O.t 33), (O.t 37)]))] []) A129_9) A129_10)) A129_12)
def A129_6 : AC := (AC.seq (AC.seq (AC.reg [] [(I.mk (some 27) none false (X.v (A.mov (O.t 11)))), (I.mk (some 28) none false (X.v (A.mov (O.t 10)))), (I.mk (some 29) none false (X.v (A.len (O.t 28)))), (I.mk (some 30) none false (X.v (A.bin BinOp.lss (O.t 27) (O.t 29))))] []) A129_7) A129_8)
def A129_5 : AC := (AC.block 2 (AC.loop A129_6))
def A129_4 : AC := (AC.seq (AC.reg [] [(I.mk (some 11) none false (X.v (A.mov (O.k (V.int IntKind.i64 (Int.ofNat 0))))))] []) A129_5)
def A129_13 : AC := (AC.reg [] [(I.mk (some 19) none false (X.v (A.mov (O.t 9)))), (I.mk (some 20) none false (X.v (A.bin BinOp.add (O.t 19) (O.k (V.int IntKind.i64 (Int.ofNat 1)))))), (I.mk (some 9) none false (X.v (A.mov (O.t 20))))] [])
def A129_3 : AC := (AC.seq (AC.block 1 (AC.seq (AC.reg [] [(I.mk (some 21) none false (X.v (A.load (Sh.ag [Sh.s, Sh.p]) (O.t 3)))), (I.mk (some 22) none false (X.v (A.mov (O.t 8)))), (I.mk (some 23) none false (X.v (A.mov (O.t 9)))), (I.mk (some 24) none false (X.v (A.idx (O.t 22) (O.t 23) 1))), (I.mk (some 25) none false (X.v (A.load Sh.s (O.t 24)))), (I.mk (some 26) none false (X.call (O.k (V.fn 85 [] [])) [(O.t 21), (O.t 25)])), (I.mk (some 10) none false (X.v (A.mov (O.t 26))))] []) A129_4)) A129_13)
def A129_1 : AC := (AC.seq (AC.seq (AC.reg [] [(I.mk (some 15) none false (X.v (A.mov (O.t 9)))), (I.mk (some 16) none false (X.v (A.mov (O.t 8)))), (I.mk (some 17) none false (X.v (A.len (O.t 16)))), (I.mk (some 18) none false (X.v (A.bin BinOp.lss (O.t 15) (O.t 17))))] []) A129_2) A129_3)
def A129_14 : AC := (AC.seq (AC.reg [] [(I.mk (some 58) none false (X.v (A.mov (O.t 7)))), (I.mk (some 6) none false (X.v (A.mov (O.t 58))))] []) AC.ret)
def A129_17 : AC := (AC.block 0 (AC.loop A129_1))
def A129_16 : AC := (AC.seq (AC.seq (AC.reg [] [(I.mk (some 9) none false (X.v (A.mov (O.k (V.int IntKind.i64 (Int.ofNat 0))))))] []) A129_17) A129_14)
def A129_15 : AC := (AC.seq (AC.reg [.clr [12, 14]] [(I.mk (some 12) none false (X.lit (V.int IntKind.i64 (Int.ofNat 0)) 0 [])), (I.mk (some 13) none false (X.v (A.mov (O.t 2)))), (I.mk (some 14) none false (X.lit (V.int IntKind.i64 (Int.ofNat 0)) 1 [(0, 0, (O.t 13))])), (I.mk (some 7) none false (X.v (A.mov (O.t 12)))), (I.mk (some 8) none false (X.v (A.mov (O.t 14))))] [.home 12 7, .home 14 8, .frz 7]) A129_16)
def A129 : AC := (AC.seq (AC.reg [.clr [3]] [(I.mk (some 3) none false (X.box (O.t 0))), (I.mk (some 6) none false (X.v (A.mov (O.k (V.sl Tok.nl Sh.s 0 [])))))] []) A129_15)
def an129 : List An := [{ id := 0, pre := [.clr [3]], ep := [], lin := [], sp := [] }, { id := 1, pre := [.clr [12, 14]], ep := [.home 12 7, .home 14 8, .frz 7], lin := [], sp := [] }, { id := 11, pre := [.clr [50, 51]], ep := [.home 51 8], lin := [], sp := [] }, { id := 12, pre := [.frz 7], ep := [], lin := [], sp := [] }]
theorem c129 : cC Try.prog Try.f129.ntmps an129 (Try.f129.body.getD .skip) = some A129 := by kernel_rfl
structure H129 (D : Den) (σ : Sig) (F : Nat) : Prop where
  c85 : ∀ (x0 : (Int × (List (Int × Int)))) (x1 : Int) r, s_l2Neighbors F x0 x1 = some r → D 85 [Enc.enc x0, Enc.enc x1] = some (Enc.enc (r : (List Int)))
  g85 : σ 85 = some (0, false)
  c98 : ∀ (x0 : (List Int)) (x1 : Int) r, s_l1Has F x0 x1 = some r → D 98 [Enc.enc x0, Enc.enc x1] = some (Enc.enc (r : Bool))
  g98 : σ 98 = some (0, false)
  c111 : ∀ (x0 : (List Int)) (x1 : Int) r, s_l1Put F x0 x1 = some r → D 111 [Enc.enc x0, Enc.enc x1] = some (Enc.enc (r : (List Int)))
  g111 : σ 111 = some (0, true)
abbrev R129 (r : (List Int)) : (Nat → V) → Prop := RR Try.prog [.tmp 6] 0 true (Enc.enc (r : (List Int)))
section
variable {D : Den} {σ : Sig} {F : Nat} {r : (List Int)}
def s_l5Later_j1 (F : Nat) (gone_2 : (List Int)) (g_1 : (Int × (List (Int × Int)))) (k_53 : Int) (r_102 : (List Int)) (i_119 : Int) (c1 : (List Int) → (List Int) → Int → Option (List Int)) (c4 : (List Int) → (List Int) → Int → Option (List Int)) (out_142 : (List Int)) (seen_143 : (List Int)) : Option (List Int) :=
  c4 out_142 seen_143 (w64 (i_119 + 1))
theorem t_f129_j1 (H : H129 D σ F) (gone_2 : (List Int)) (g_1 : (Int × (List (Int × Int)))) (k_53 : Int) (r_102 : (List Int)) (i_119 : Int) (c1 : (List Int) → (List Int) → Int → Option (List Int)) (Hc1 : ∀ (out_51 : (List Int)) (seen_52 : (List Int)) (k_53 : Int) (s : Nat → V), Facts [(1, (Enc.enc (gone_2 : List Int))), (3, (.ref (.bx 3) 0 [] (.agg [(.int .i64 g_1.1), (Enc.enc (g_1.2 : List (Int × Int)))]))), (6, (.sl .nl (Enc.shp Int) 0 [])), (7, (Enc.enc (out_51 : List Int))), (8, (encO (.at 8 []) (.of (seen_52 : List Int)))), (9, (.int .i64 k_53))] s → c1 out_51 seen_52 k_53 = some r → Run D σ (R129 r) (.run A129_1 [.lp A129_1, .bk 0, .sq A129_14]) s) (c4 : (List Int) → (List Int) → Int → Option (List Int)) (Hc4 : ∀ (out_117 : (List Int)) (seen_118 : (List Int)) (i_119 : Int) (s : Nat → V), Facts [(1, (Enc.enc (gone_2 : List Int))), (3, (.ref (.bx 3) 0 [] (.agg [(.int .i64 g_1.1), (Enc.enc (g_1.2 : List (Int × Int)))]))), (6, (.sl .nl (Enc.shp Int) 0 [])), (7, (Enc.enc (out_117 : List Int))), (8, (encO (.at 8 []) (.of (seen_118 : List Int)))), (9, (.int .i64 k_53)), (10, (Enc.enc (r_102 : List Int))), (11, (.int .i64 i_119))] s → c4 out_117 seen_118 i_119 = some r → Run D σ (R129 r) (.run A129_6 [.lp A129_6, .bk 2, .bk 1, .sq A129_13, .lp A129_1, .bk 0, .sq A129_14]) s) (out_142 : (List Int)) (seen_143 : (List Int)) (s : Nat → V) (hs : Facts [(1, (Enc.enc (gone_2 : List Int))), (3, (.ref (.bx 3) 0 [] (.agg [(.int .i64 g_1.1), (Enc.enc (g_1.2 : List (Int × Int)))]))), (6, (.sl .nl (Enc.shp Int) 0 [])), (7, (Enc.enc (out_142 : List Int))), (8, (encO (.at 8 []) (.of (seen_143 : List Int)))), (9, (.int .i64 k_53)), (10, (Enc.enc (r_102 : List Int))), (11, (.int .i64 i_119))] s) (h : s_l5Later_j1 F gone_2 g_1 k_53 r_102 i_119 c1 c4 out_142 seen_143 = some r) : Run D σ (R129 r) (.nrm [.bk 3, .sq A129_12, .lp A129_6, .bk 2, .bk 1, .sq A129_13, .lp A129_1, .bk 0, .sq A129_14]) s := by
  unfold s_l5Later_j1 at h
  obtain ⟨h1, h3, h6, h7, h8, h9, h10, h11⟩ := hs
  refine .nbk ?_
  refine .nsq ?_
  refine run_reg ?_
  refine e_end ?_
  refine g_v1 (t := 11) (u := (.int .i64 i_119)) (.int .i64 i_119) h11 rfl rfl ?_
  refine g_v1 (t := 31) (u := (.int .i64 i_119)) (.int .i64 (w64 (i_119 + 1))) rfl rfl rfl ?_
  refine g_v1 (t := 32) (u := (.int .i64 (w64 (i_119 + 1)))) (.int .i64 (w64 (i_119 + 1))) rfl rfl rfl ?_
  refine g_end ?_
  refine e_end ?_
  refine renew [(1, (Enc.enc (gone_2 : List Int))), (3, (.ref (.bx 3) 0 [] (.agg [(.int .i64 g_1.1), (Enc.enc (g_1.2 : List (Int × Int)))]))), (6, (.sl .nl (Enc.shp Int) 0 [])), (7, (Enc.enc (out_142 : List Int))), (8, (encO (.at 8 []) (.of (seen_143 : List Int)))), (9, (.int .i64 k_53)), (10, (Enc.enc (r_102 : List Int))), (11, (.int .i64 (w64 (i_119 + 1))))] ⟨h1, h3, h6, h7, h8, h9, h10, rfl⟩ ?_
  rintro s ⟨h1, h3, h6, h7, h8, h9, h10, h11⟩
  refine .nlp ?_
  exact Hc4 out_142 seen_143 (w64 (i_119 + 1)) _ ⟨h1, h3, h6, h7, h8, h9, h10, h11⟩ h
def s_l5Later_l1 (F : Nat) (gone_2 : (List Int)) (g_1 : (Int × (List (Int × Int)))) (k_53 : Int) (r_102 : (List Int)) (c1 : (List Int) → (List Int) → Int → Option (List Int)) : Nat → (List Int) → (List Int) → Int → Option (List Int)
  | 0, _, _, _ => none
  | k + 1, out_117, seen_118, i_119 =>
    bif decide (i_119 < (r_102.length : Int)) then
      (idx r_102 i_119).bind fun e_134 =>
      (s_l1Has F seen_118 e_134).bind fun r_135 =>
      bif r_135 then
        (s_l5Later_l1 F gone_2 g_1 k_53 r_102 c1 k) out_117 seen_118 (w64 (i_119 + 1))
      else
        (idx r_102 i_119).bind fun e_136 =>
        (s_l1Has F gone_2 e_136).bind fun r_137 =>
        bif r_137 then
          (idx r_102 i_119).bind fun e_144 =>
          (appL seen_118 [e_144]).bind fun ap_145 =>
          s_l5Later_j1 F gone_2 g_1 k_53 r_102 i_119 c1 (s_l5Later_l1 F gone_2 g_1 k_53 r_102 c1 k) out_117 ap_145
        else
          (idx r_102 i_119).bind fun e_146 =>
          (s_l1Put F out_117 e_146).bind fun r_147 =>
          s_l5Later_j1 F gone_2 g_1 k_53 r_102 i_119 c1 (s_l5Later_l1 F gone_2 g_1 k_53 r_102 c1 k) r_147 seen_118
    else
      c1 out_117 seen_118 (w64 (k_53 + 1))
theorem t_f129_l1 (H : H129 D σ F) (gone_2 : (List Int)) (g_1 : (Int × (List (Int × Int)))) (k_53 : Int) (r_102 : (List Int)) (c1 : (List Int) → (List Int) → Int → Option (List Int)) (Hc1 : ∀ (out_51 : (List Int)) (seen_52 : (List Int)) (k_53 : Int) (s : Nat → V), Facts [(1, (Enc.enc (gone_2 : List Int))), (3, (.ref (.bx 3) 0 [] (.agg [(.int .i64 g_1.1), (Enc.enc (g_1.2 : List (Int × Int)))]))), (6, (.sl .nl (Enc.shp Int) 0 [])), (7, (Enc.enc (out_51 : List Int))), (8, (encO (.at 8 []) (.of (seen_52 : List Int)))), (9, (.int .i64 k_53))] s → c1 out_51 seen_52 k_53 = some r → Run D σ (R129 r) (.run A129_1 [.lp A129_1, .bk 0, .sq A129_14]) s) : ∀ (k : Nat) (out_117 : (List Int)) (seen_118 : (List Int)) (i_119 : Int) (s : Nat → V), Facts [(1, (Enc.enc (gone_2 : List Int))), (3, (.ref (.bx 3) 0 [] (.agg [(.int .i64 g_1.1), (Enc.enc (g_1.2 : List (Int × Int)))]))), (6, (.sl .nl (Enc.shp Int) 0 [])), (7, (Enc.enc (out_117 : List Int))), (8, (encO (.at 8 []) (.of (seen_118 : List Int)))), (9, (.int .i64 k_53)), (10, (Enc.enc (r_102 : List Int))), (11, (.int .i64 i_119))] s → s_l5Later_l1 F gone_2 g_1 k_53 r_102 c1 k out_117 seen_118 i_119 = some r → Run D σ (R129 r) (.run A129_6 [.lp A129_6, .bk 2, .bk 1, .sq A129_13, .lp A129_1, .bk 0, .sq A129_14]) s := by
  intro k
  induction k with
  | zero => intro out_117 seen_118 i_119 s _ h; exact nomatch (h : (none : Option _) = some r)
  | succ k ih =>
    intro out_117 seen_118 i_119 s hs h
    rw [s_l5Later_l1] at h
    obtain ⟨h1, h3, h6, h7, h8, h9, h10, h11⟩ := hs
    refine .seq ?_
    refine .seq ?_
    refine run_reg ?_
    refine e_end ?_
    refine g_v1 (t := 11) (u := (.int .i64 i_119)) (.int .i64 i_119) h11 rfl rfl ?_
    refine g_v1 (t := 10) (u := (Enc.enc (r_102 : List Int))) (Enc.enc (r_102 : List Int)) h10 rfl rfl ?_
    refine g_v (.int .i64 (r_102.length : Int)) (ev_len (xs := r_102) rfl) ?_
    refine g_v2 (t1 := 27) (t2 := 29) (u1 := (.int .i64 i_119)) (u2 := (.int .i64 (r_102.length : Int))) (.bool (decide (i_119 < (r_102.length : Int)))) rfl rfl rfl rfl ?_
    refine g_end ?_
    refine e_end ?_
    refine renew [(1, (Enc.enc (gone_2 : List Int))), (3, (.ref (.bx 3) 0 [] (.agg [(.int .i64 g_1.1), (Enc.enc (g_1.2 : List (Int × Int)))]))), (6, (.sl .nl (Enc.shp Int) 0 [])), (7, (Enc.enc (out_117 : List Int))), (8, (encO (.at 8 []) (.of (seen_118 : List Int)))), (9, (.int .i64 k_53)), (10, (Enc.enc (r_102 : List Int))), (11, (.int .i64 i_119)), (30, (.bool (decide (i_119 < (r_102.length : Int)))))] ⟨h1, h3, h6, h7, h8, h9, h10, h11, rfl⟩ ?_
    rintro s ⟨h1, h3, h6, h7, h8, h9, h10, h11, h30⟩
    refine .nsq ?_
    refine run_cond (t := decide (i_119 < (r_102.length : Int))) h30 h (fun h => ?_) (fun h => ?_)
    · refine .skip ?_
      refine .nsq ?_
      refine .seq ?_
      refine .block ?_
      refine .seq ?_
      refine .seq ?_
      refine run_reg ?_
      refine e_end ?_
      refine g_v1 (t := 8) (u := (encO (.at 8 []) (.of (seen_118 : List Int)))) (encO (.at 8 []) (.of (seen_118 : List Int))) h8 rfl rfl ?_
      refine g_v1 (t := 10) (u := (Enc.enc (r_102 : List Int))) (Enc.enc (r_102 : List Int)) h10 rfl rfl ?_
      refine g_v1 (t := 11) (u := (.int .i64 i_119)) (.int .i64 i_119) h11 rfl rfl ?_
      obtain ⟨e_134, E_e_134, h⟩ := bind_some h
      refine g_v (.ref .sh 0 [] (.int .i64 e_134)) (ev_idx (t := .sh) (lo := 0) (xs := r_102) rfl rfl E_e_134 rfl rfl) ?_
      refine g_v1 (t := 36) (u := (.ref .sh 0 [] (.int .i64 e_134))) (.int .i64 e_134) rfl rfl rfl ?_
      obtain ⟨r_135, E_r_135, h⟩ := bind_some h
      refine g_call (m := 0) (al := false) (r := (Enc.enc (r_135 : Bool))) [Enc.enc (seen_118 : (List Int)), Enc.enc (e_134 : Int)] (ta_cons (v := (encO (.at 8 []) (.of (seen_118 : List Int)))) rfl rfl (erase_encO (o := .of seen_118)) (ta_cons (v := (.int .i64 e_134)) rfl rfl rfl ta_nil)) (H.c98 _ _ _ E_r_135) H.g98 rfl rfl rfl rfl ?_
      refine g_end ?_
      refine e_end ?_
      refine renew [(1, (Enc.enc (gone_2 : List Int))), (3, (.ref (.bx 3) 0 [] (.agg [(.int .i64 g_1.1), (Enc.enc (g_1.2 : List (Int × Int)))]))), (6, (.sl .nl (Enc.shp Int) 0 [])), (7, (Enc.enc (out_117 : List Int))), (8, (encO (.at 8 []) (.of (seen_118 : List Int)))), (9, (.int .i64 k_53)), (10, (Enc.enc (r_102 : List Int))), (11, (.int .i64 i_119)), (38, (.bool r_135))] ⟨h1, h3, h6, h7, h8, h9, h10, h11, rfl⟩ ?_
      rintro s ⟨h1, h3, h6, h7, h8, h9, h10, h11, h38⟩
      refine .nsq ?_
      refine run_cond (t := r_135) h38 h (fun h => ?_) (fun h => ?_)
      · refine .exit ?_
        refine .esq ?_
        refine .ebk ?_
        refine .nsq ?_
        refine run_reg ?_
        refine e_end ?_
        refine g_v1 (t := 11) (u := (.int .i64 i_119)) (.int .i64 i_119) h11 rfl rfl ?_
        refine g_v1 (t := 31) (u := (.int .i64 i_119)) (.int .i64 (w64 (i_119 + 1))) rfl rfl rfl ?_
        refine g_v1 (t := 32) (u := (.int .i64 (w64 (i_119 + 1)))) (.int .i64 (w64 (i_119 + 1))) rfl rfl rfl ?_
        refine g_end ?_
        refine e_end ?_
        refine renew [(1, (Enc.enc (gone_2 : List Int))), (3, (.ref (.bx 3) 0 [] (.agg [(.int .i64 g_1.1), (Enc.enc (g_1.2 : List (Int × Int)))]))), (6, (.sl .nl (Enc.shp Int) 0 [])), (7, (Enc.enc (out_117 : List Int))), (8, (encO (.at 8 []) (.of (seen_118 : List Int)))), (9, (.int .i64 k_53)), (10, (Enc.enc (r_102 : List Int))), (11, (.int .i64 (w64 (i_119 + 1))))] ⟨h1, h3, h6, h7, h8, h9, h10, rfl⟩ ?_
        rintro s ⟨h1, h3, h6, h7, h8, h9, h10, h11⟩
        refine .nlp ?_
        exact ih out_117 seen_118 (w64 (i_119 + 1)) _ ⟨h1, h3, h6, h7, h8, h9, h10, h11⟩ h
      · refine .skip ?_
        refine .nsq ?_
        refine .seq ?_
        refine run_reg ?_
        refine e_end ?_
        refine g_v1 (t := 1) (u := (Enc.enc (gone_2 : List Int))) (Enc.enc (gone_2 : List Int)) h1 rfl rfl ?_
        refine g_v1 (t := 10) (u := (Enc.enc (r_102 : List Int))) (Enc.enc (r_102 : List Int)) h10 rfl rfl ?_
        refine g_v1 (t := 11) (u := (.int .i64 i_119)) (.int .i64 i_119) h11 rfl rfl ?_
        obtain ⟨e_136, E_e_136, h⟩ := bind_some h
        refine g_v (.ref .sh 0 [] (.int .i64 e_136)) (ev_idx (t := .sh) (lo := 0) (xs := r_102) rfl rfl E_e_136 rfl rfl) ?_
        refine g_v1 (t := 42) (u := (.ref .sh 0 [] (.int .i64 e_136))) (.int .i64 e_136) rfl rfl rfl ?_
        obtain ⟨r_137, E_r_137, h⟩ := bind_some h
        refine g_call (m := 0) (al := false) (r := (Enc.enc (r_137 : Bool))) [Enc.enc (gone_2 : (List Int)), Enc.enc (e_136 : Int)] (ta_cons (v := (Enc.enc (gone_2 : List Int))) rfl rfl (Enc.erase_enc (gone_2 : (List Int))) (ta_cons (v := (.int .i64 e_136)) rfl rfl rfl ta_nil)) (H.c98 _ _ _ E_r_137) H.g98 rfl rfl rfl rfl ?_
        refine g_end ?_
        refine e_end ?_
        refine renew [(1, (Enc.enc (gone_2 : List Int))), (3, (.ref (.bx 3) 0 [] (.agg [(.int .i64 g_1.1), (Enc.enc (g_1.2 : List (Int × Int)))]))), (6, (.sl .nl (Enc.shp Int) 0 [])), (7, (Enc.enc (out_117 : List Int))), (8, (encO (.at 8 []) (.of (seen_118 : List Int)))), (9, (.int .i64 k_53)), (10, (Enc.enc (r_102 : List Int))), (11, (.int .i64 i_119)), (44, (.bool r_137))] ⟨h1, h3, h6, h7, h8, h9, h10, h11, rfl⟩ ?_
        rintro s ⟨h1, h3, h6, h7, h8, h9, h10, h11, h44⟩
        refine .nsq ?_
        refine run_cond (t := r_137) h44 h (fun h => ?_) (fun h => ?_)
        · refine run_reg ?_
          refine e_clr ?_
          refine e_end ?_
          refine g_v1 (t := 8) (u := (encO (.at 8 []) (.of (seen_118 : List Int)))) (encO (.at 8 []) (.of (seen_118 : List Int))) (keep_clear (s := s) (pk := [50, 51]) h8 rfl (map_encO (r := 8) (p := []) rfl rfl)) rfl rfl ?_
          refine g_v1 (t := 10) (u := (Enc.enc (r_102 : List Int))) (Enc.enc (r_102 : List Int)) (keep_clear (s := s) (pk := [50, 51]) h10 rfl (Enc.map_enc _ (r_102 : List Int))) rfl rfl ?_
          refine g_v1 (t := 11) (u := (.int .i64 i_119)) (.int .i64 i_119) (keep_clear (s := s) (pk := [50, 51]) h11 rfl rfl) rfl rfl ?_
          obtain ⟨e_144, E_e_144, h⟩ := bind_some h
          refine g_v (.ref .sh 0 [] (.int .i64 e_144)) (ev_idx (t := .sh) (lo := 0) (xs := r_102) rfl rfl E_e_144 rfl rfl) ?_
          refine g_v1 (t := 48) (u := (.ref .sh 0 [] (.int .i64 e_144))) (.int .i64 e_144) rfl rfl rfl ?_
          refine g_litL [(49, (.int .i64 e_144))] [Enc.enc (e_144 : Int)] rfl rfl rfl (gone_clear (s := s) (pk := [50, 51]) (t := 50) rfl) ?_
          obtain ⟨ap_145, E_ap_145, h⟩ := bind_some h
          refine g_app (q := 8) (p := []) (o := (.of (seen_118 : List Int))) (ys := ([e_144] : List Int)) (t2 := (.at 50 [])) (lo2 := 0) rfl rfl rfl (gone_clear (s := s) (pk := [50, 51]) (t := 51) rfl) (appN_L (o := (.of (seen_118 : List Int))) E_ap_145 trivial) (fun s_75 ha_75 => ?_)
          refine g_v1 (t := 51) (u := (encO (.at 51 []) (.of (ap_145 : List Int)))) (encO (.at 51 []) (.of (ap_145 : List Int))) rfl rfl rfl ?_
          refine g_end ?_
          refine e_home (r := 51) (x := 8) (v := (encO (.at 51 []) (.of (ap_145 : List Int)))) (by exact rfl) rfl (fun s_76 hg_76 => ?_)
          refine e_end ?_
          refine renew [(1, (Enc.enc (gone_2 : List Int))), (3, (.ref (.bx 3) 0 [] (.agg [(.int .i64 g_1.1), (Enc.enc (g_1.2 : List (Int × Int)))]))), (6, (.sl .nl (Enc.shp Int) 0 [])), (7, (Enc.enc (out_117 : List Int))), (8, (encO (.at 8 []) (.of (ap_145 : List Int)))), (9, (.int .i64 k_53)), (10, (Enc.enc (r_102 : List Int))), (11, (.int .i64 i_119))] ⟨(hg_76 1 (Enc.enc (gone_2 : List Int)) (Enc.enc (gone_2 : List Int)) (show s_75 1 = (Enc.enc (gone_2 : List Int)) from keep_app ha_75 (keep_clear (s := s) (pk := [50, 51]) h1 rfl (Enc.map_enc _ (gone_2 : List Int))) (Enc.map_enc _ (gone_2 : List Int))) (Enc.map_enc _ (gone_2 : List Int))), (hg_76 3 (.ref (.bx 3) 0 [] (.agg [(.int .i64 g_1.1), (Enc.enc (g_1.2 : List (Int × Int)))])) (.ref (.bx 3) 0 [] (.agg [(.int .i64 g_1.1), (Enc.enc (g_1.2 : List (Int × Int)))])) (show s_75 3 = (.ref (.bx 3) 0 [] (.agg [(.int .i64 g_1.1), (Enc.enc (g_1.2 : List (Int × Int)))])) from keep_app ha_75 (keep_clear (s := s) (pk := [50, 51]) h3 rfl (map_bx rfl (map_agg (maps_cons rfl (maps_cons (Enc.map_enc _ (g_1.2 : List (Int × Int))) maps_nil))))) (map_bx rfl (map_agg (maps_cons rfl (maps_cons (Enc.map_enc _ (g_1.2 : List (Int × Int))) maps_nil))))) (map_bx rfl (map_agg (maps_cons rfl (maps_cons (Enc.map_enc _ (g_1.2 : List (Int × Int))) maps_nil))))), (hg_76 6 (.sl .nl (Enc.shp Int) 0 []) (.sl .nl (Enc.shp Int) 0 []) (show s_75 6 = (.sl .nl (Enc.shp Int) 0 []) from keep_app ha_75 (keep_clear (s := s) (pk := [50, 51]) h6 rfl rfl) rfl) rfl), (hg_76 7 (Enc.enc (out_117 : List Int)) (Enc.enc (out_117 : List Int)) (show s_75 7 = (Enc.enc (out_117 : List Int)) from keep_app ha_75 (keep_clear (s := s) (pk := [50, 51]) h7 rfl (Enc.map_enc _ (out_117 : List Int))) (Enc.map_enc _ (out_117 : List Int))) (Enc.map_enc _ (out_117 : List Int))), (hg_76 8 (encO (.at 51 []) (.of (ap_145 : List Int))) (encO (.at 8 []) (.of (ap_145 : List Int))) rfl (map_encO (r := 51) (p := []) rfl rfl)), (hg_76 9 (.int .i64 k_53) (.int .i64 k_53) (show s_75 9 = (.int .i64 k_53) from keep_app ha_75 (keep_clear (s := s) (pk := [50, 51]) h9 rfl rfl) rfl) rfl), (hg_76 10 (Enc.enc (r_102 : List Int)) (Enc.enc (r_102 : List Int)) (show s_75 10 = (Enc.enc (r_102 : List Int)) from keep_app ha_75 (keep_clear (s := s) (pk := [50, 51]) h10 rfl (Enc.map_enc _ (r_102 : List Int))) (Enc.map_enc _ (r_102 : List Int))) (Enc.map_enc _ (r_102 : List Int))), (hg_76 11 (.int .i64 i_119) (.int .i64 i_119) (show s_75 11 = (.int .i64 i_119) from keep_app ha_75 (keep_clear (s := s) (pk := [50, 51]) h11 rfl rfl) rfl) rfl)⟩ ?_
          rintro s ⟨h1, h3, h6, h7, h8, h9, h10, h11⟩
          exact t_f129_j1 H gone_2 g_1 k_53 r_102 i_119 c1 Hc1 (s_l5Later_l1 F gone_2 g_1 k_53 r_102 c1 k) ih out_117 ap_145 _ ⟨h1, h3, h6, h7, h8, h9, h10, h11⟩ h
        · refine run_reg ?_
          refine e_frz (x := 7) (v := (Enc.enc (out_117 : List Int))) [] (by exact h7) (Enc.toks_enc (out_117 : List Int)) (fun s_77 hg_77 => ?_)
          refine e_end ?_
          refine g_v1 (t := 7) (u := (Enc.enc (out_117 : List Int))) (Enc.enc (out_117 : List Int)) (hg_77 7 (Enc.enc (out_117 : List Int)) (Enc.enc (out_117 : List Int)) h7 (frz_none _)) rfl rfl ?_
          refine g_v1 (t := 10) (u := (Enc.enc (r_102 : List Int))) (Enc.enc (r_102 : List Int)) (hg_77 10 (Enc.enc (r_102 : List Int)) (Enc.enc (r_102 : List Int)) h10 (frz_none _)) rfl rfl ?_
          refine g_v1 (t := 11) (u := (.int .i64 i_119)) (.int .i64 i_119) (hg_77 11 (.int .i64 i_119) (.int .i64 i_119) h11 (frz_none _)) rfl rfl ?_
          obtain ⟨e_146, E_e_146, h⟩ := bind_some h
          refine g_v (.ref .sh 0 [] (.int .i64 e_146)) (ev_idx (t := .sh) (lo := 0) (xs := r_102) rfl rfl E_e_146 rfl rfl) ?_
          refine g_v1 (t := 55) (u := (.ref .sh 0 [] (.int .i64 e_146))) (.int .i64 e_146) rfl rfl rfl ?_
          obtain ⟨r_147, E_r_147, h⟩ := bind_some h
          refine g_call (m := 0) (al := true) (r := (Enc.enc (r_147 : (List Int)))) [Enc.enc (out_117 : (List Int)), Enc.enc (e_146 : Int)] (ta_cons (v := (Enc.enc (out_117 : List Int))) rfl rfl (Enc.erase_enc (out_117 : (List Int))) (ta_cons (v := (.int .i64 e_146)) rfl rfl rfl ta_nil)) (H.c111 _ _ _ E_r_147) H.g111 (hal_of (ht_cons (v := (Enc.enc (out_117 : List Int))) rfl rfl rfl (ht_cons (v := (.int .i64 e_146)) rfl rfl rfl ht_nil))) rfl rfl rfl ?_
          refine g_v1 (t := 57) (u := (Enc.enc (r_147 : List Int))) (Enc.enc (r_147 : List Int)) rfl rfl rfl ?_
          refine g_end ?_
          refine e_end ?_
          refine renew [(1, (Enc.enc (gone_2 : List Int))), (3, (.ref (.bx 3) 0 [] (.agg [(.int .i64 g_1.1), (Enc.enc (g_1.2 : List (Int × Int)))]))), (6, (.sl .nl (Enc.shp Int) 0 [])), (7, (Enc.enc (r_147 : List Int))), (8, (encO (.at 8 []) (.of (seen_118 : List Int)))), (9, (.int .i64 k_53)), (10, (Enc.enc (r_102 : List Int))), (11, (.int .i64 i_119))] ⟨(hg_77 1 (Enc.enc (gone_2 : List Int)) (Enc.enc (gone_2 : List Int)) h1 (frz_none _)), (hg_77 3 (.ref (.bx 3) 0 [] (.agg [(.int .i64 g_1.1), (Enc.enc (g_1.2 : List (Int × Int)))])) (.ref (.bx 3) 0 [] (.agg [(.int .i64 g_1.1), (Enc.enc (g_1.2 : List (Int × Int)))])) h3 (frz_none _)), (hg_77 6 (.sl .nl (Enc.shp Int) 0 []) (.sl .nl (Enc.shp Int) 0 []) h6 (frz_none _)), rfl, (hg_77 8 (encO (.at 8 []) (.of (seen_118 : List Int))) (encO (.at 8 []) (.of (seen_118 : List Int))) h8 (frz_none _)), (hg_77 9 (.int .i64 k_53) (.int .i64 k_53) h9 (frz_none _)), (hg_77 10 (Enc.enc (r_102 : List Int)) (Enc.enc (r_102 : List Int)) h10 (frz_none _)), (hg_77 11 (.int .i64 i_119) (.int .i64 i_119) h11 (frz_none _))⟩ ?_
          rintro s ⟨h1, h3, h6, h7, h8, h9, h10, h11⟩
          exact t_f129_j1 H gone_2 g_1 k_53 r_102 i_119 c1 Hc1 (s_l5Later_l1 F gone_2 g_1 k_53 r_102 c1 k) ih r_147 seen_118 _ ⟨h1, h3, h6, h7, h8, h9, h10, h11⟩ h
    · refine .exit ?_
      refine .esq ?_
      refine .elp ?_
      refine .ebk ?_
      refine .nbk ?_
      refine .nsq ?_
      refine run_reg ?_
      refine e_end ?_
      refine g_v1 (t := 9) (u := (.int .i64 k_53)) (.int .i64 k_53) h9 rfl rfl ?_
      refine g_v1 (t := 19) (u := (.int .i64 k_53)) (.int .i64 (w64 (k_53 + 1))) rfl rfl rfl ?_
      refine g_v1 (t := 20) (u := (.int .i64 (w64 (k_53 + 1)))) (.int .i64 (w64 (k_53 + 1))) rfl rfl rfl ?_
      refine g_end ?_
      refine e_end ?_
      refine renew [(1, (Enc.enc (gone_2 : List Int))), (3, (.ref (.bx 3) 0 [] (.agg [(.int .i64 g_1.1), (Enc.enc (g_1.2 : List (Int × Int)))]))), (6, (.sl .nl (Enc.shp Int) 0 [])), (7, (Enc.enc (out_117 : List Int))), (8, (encO (.at 8 []) (.of (seen_118 : List Int)))), (9, (.int .i64 (w64 (k_53 + 1))))] ⟨h1, h3, h6, h7, h8, rfl⟩ ?_
      rintro s ⟨h1, h3, h6, h7, h8, h9⟩
      refine .nlp ?_
      exact Hc1 out_117 seen_118 (w64 (k_53 + 1)) _ ⟨h1, h3, h6, h7, h8, h9⟩ h
def s_l5Later_l2 (F : Nat) (gone_2 : (List Int)) (g_1 : (Int × (List (Int × Int))))  : Nat → (List Int) → (List Int) → Int → Option (List Int)
  | 0, _, _, _ => none
  | k + 1, out_51, seen_52, k_53 =>
    bif decide (k_53 < (seen_52.length : Int)) then
      (idx seen_52 k_53).bind fun e_101 =>
      (s_l2Neighbors F g_1 e_101).bind fun r_102 =>
      s_l5Later_l1 F gone_2 g_1 k_53 r_102 (s_l5Later_l2 F gone_2 g_1 k) F out_51 seen_52 0
    else
      some out_51
theorem t_f129_l2 (H : H129 D σ F) (gone_2 : (List Int)) (g_1 : (Int × (List (Int × Int))))  : ∀ (k : Nat) (out_51 : (List Int)) (seen_52 : (List Int)) (k_53 : Int) (s : Nat → V), Facts [(1, (Enc.enc (gone_2 : List Int))), (3, (.ref (.bx 3) 0 [] (.agg [(.int .i64 g_1.1), (Enc.enc (g_1.2 : List (Int × Int)))]))), (6, (.sl .nl (Enc.shp Int) 0 [])), (7, (Enc.enc (out_51 : List Int))), (8, (encO (.at 8 []) (.of (seen_52 : List Int)))), (9, (.int .i64 k_53))] s → s_l5Later_l2 F gone_2 g_1 k out_51 seen_52 k_53 = some r → Run D σ (R129 r) (.run A129_1 [.lp A129_1, .bk 0, .sq A129_14]) s := by
  intro k
  induction k with
  | zero => intro out_51 seen_52 k_53 s _ h; exact nomatch (h : (none : Option _) = some r)
  | succ k ih =>
    intro out_51 seen_52 k_53 s hs h
    rw [s_l5Later_l2] at h
    obtain ⟨h1, h3, h6, h7, h8, h9⟩ := hs
    refine .seq ?_
    refine .seq ?_
    refine run_reg ?_
    refine e_end ?_
    refine g_v1 (t := 9) (u := (.int .i64 k_53)) (.int .i64 k_53) h9 rfl rfl ?_
    refine g_v1 (t := 8) (u := (encO (.at 8 []) (.of (seen_52 : List Int)))) (encO (.at 8 []) (.of (seen_52 : List Int))) h8 rfl rfl ?_
    refine g_v (.int .i64 (seen_52.length : Int)) (ev_lenO (o := .of seen_52) rfl) ?_
    refine g_v2 (t1 := 15) (t2 := 17) (u1 := (.int .i64 k_53)) (u2 := (.int .i64 (seen_52.length : Int))) (.bool (decide (k_53 < (seen_52.length : Int)))) rfl rfl rfl rfl ?_
    refine g_end ?_
    refine e_end ?_
    refine renew [(1, (Enc.enc (gone_2 : List Int))), (3, (.ref (.bx 3) 0 [] (.agg [(.int .i64 g_1.1), (Enc.enc (g_1.2 : List (Int × Int)))]))), (6, (.sl .nl (Enc.shp Int) 0 [])), (7, (Enc.enc (out_51 : List Int))), (8, (encO (.at 8 []) (.of (seen_52 : List Int)))), (9, (.int .i64 k_53)), (18, (.bool (decide (k_53 < (seen_52.length : Int)))))] ⟨h1, h3, h6, h7, h8, h9, rfl⟩ ?_
    rintro s ⟨h1, h3, h6, h7, h8, h9, h18⟩
    refine .nsq ?_
    refine run_cond (t := decide (k_53 < (seen_52.length : Int))) h18 h (fun h => ?_) (fun h => ?_)
    · refine .skip ?_
      refine .nsq ?_
      refine .seq ?_
      refine .block ?_
      refine .seq ?_
      refine run_reg ?_
      refine e_end ?_
      refine g_v1 (t := 3) (u := (.ref (.bx 3) 0 [] (.agg [(.int .i64 g_1.1), (Enc.enc (g_1.2 : List (Int × Int)))]))) (.agg [(.int .i64 g_1.1), (Enc.enc (g_1.2 : List (Int × Int)))]) h3 rfl rfl ?_
      refine g_v1 (t := 8) (u := (encO (.at 8 []) (.of (seen_52 : List Int)))) (encO (.at 8 []) (.of (seen_52 : List Int))) h8 rfl rfl ?_
      refine g_v1 (t := 9) (u := (.int .i64 k_53)) (.int .i64 k_53) h9 rfl rfl ?_
      obtain ⟨e_101, E_e_101, h⟩ := bind_some h
      refine g_v (.ref (.at 8 []) k_53.toNat [] (.int .i64 e_101)) (ev_idxO (o := (.of seen_52)) rfl rfl E_e_101 rfl) ?_
      refine g_v1 (t := 24) (u := (.ref (.at 8 []) k_53.toNat [] (.int .i64 e_101))) (.int .i64 e_101) rfl rfl rfl ?_
      obtain ⟨r_102, E_r_102, h⟩ := bind_some h
      refine g_call (m := 0) (al := false) (r := (Enc.enc (r_102 : (List Int)))) [Enc.enc (g_1 : (Int × (List (Int × Int)))), Enc.enc (e_101 : Int)] (ta_cons (v := (.agg [(.int .i64 g_1.1), (Enc.enc (g_1.2 : List (Int × Int)))])) rfl rfl (Enc.erase_enc (g_1 : (Int × (List (Int × Int))))) (ta_cons (v := (.int .i64 e_101)) rfl rfl rfl ta_nil)) (H.c85 _ _ _ E_r_102) H.g85 rfl rfl rfl rfl ?_
      refine g_v1 (t := 26) (u := (Enc.enc (r_102 : List Int))) (Enc.enc (r_102 : List Int)) rfl rfl rfl ?_
      refine g_end ?_
      refine e_end ?_
      refine renew [(1, (Enc.enc (gone_2 : List Int))), (3, (.ref (.bx 3) 0 [] (.agg [(.int .i64 g_1.1), (Enc.enc (g_1.2 : List (Int × Int)))]))), (6, (.sl .nl (Enc.shp Int) 0 [])), (7, (Enc.enc (out_51 : List Int))), (8, (encO (.at 8 []) (.of (seen_52 : List Int)))), (9, (.int .i64 k_53)), (10, (Enc.enc (r_102 : List Int)))] ⟨h1, h3, h6, h7, h8, h9, rfl⟩ ?_
      rintro s ⟨h1, h3, h6, h7, h8, h9, h10⟩
      refine .nsq ?_
      refine .seq ?_
      refine run_reg ?_
      refine e_end ?_
      refine g_v0 (.int .i64 0) rfl rfl ?_
      refine g_end ?_
      refine e_end ?_
      refine renew [(1, (Enc.enc (gone_2 : List Int))), (3, (.ref (.bx 3) 0 [] (.agg [(.int .i64 g_1.1), (Enc.enc (g_1.2 : List (Int × Int)))]))), (6, (.sl .nl (Enc.shp Int) 0 [])), (7, (Enc.enc (out_51 : List Int))), (8, (encO (.at 8 []) (.of (seen_52 : List Int)))), (9, (.int .i64 k_53)), (10, (Enc.enc (r_102 : List Int))), (11, (.int .i64 0))] ⟨h1, h3, h6, h7, h8, h9, h10, rfl⟩ ?_
      rintro s ⟨h1, h3, h6, h7, h8, h9, h10, h11⟩
      refine .nsq ?_
      refine .block ?_
      refine .loop ?_
      exact t_f129_l1 H gone_2 g_1 k_53 r_102 (s_l5Later_l2 F gone_2 g_1 k) ih F out_51 seen_52 0 _ ⟨h1, h3, h6, h7, h8, h9, h10, h11⟩ h
    · refine .exit ?_
      refine .esq ?_
      refine .elp ?_
      refine .ebk ?_
      refine .nsq ?_
      refine .seq ?_
      refine run_reg ?_
      refine e_end ?_
      refine g_v1 (t := 7) (u := (Enc.enc (out_51 : List Int))) (Enc.enc (out_51 : List Int)) h7 rfl rfl ?_
      refine g_v1 (t := 58) (u := (Enc.enc (out_51 : List Int))) (Enc.enc (out_51 : List Int)) rfl rfl rfl ?_
      refine g_end ?_
      refine e_end ?_
      refine renew [(6, (Enc.enc (out_51 : List Int)))] rfl ?_
      rintro s h6
      refine .nsq ?_
      refine .ret ?_
      have hr := Option.some.inj h
      subst hr
      exact rrA (res_tmp h6) (fin_ret1 (fin_enc (x := (out_51 : (List Int)))))
def s_l5Later (F : Nat) (g_1 : (Int × (List (Int × Int)))) (gone_2 : (List Int)) (x_3 : Int) : Option (List Int) :=
  s_l5Later_l2 F gone_2 g_1 F [] [x_3] 0
theorem t129 (H : H129 D σ F) (g_1 : (Int × (List (Int × Int)))) (gone_2 : (List Int)) (x_3 : Int) (s : Nat → V) (hs : Facts [(0, (.agg [(.int .i64 g_1.1), (Enc.enc (g_1.2 : List (Int × Int)))])), (1, (Enc.enc (gone_2 : List Int))), (2, (.int .i64 x_3))] s) (h : s_l5Later F g_1 gone_2 x_3 = some r) : Run D σ (R129 r) (.run A129 []) s := by
  unfold s_l5Later at h
  obtain ⟨h0, h1, h2⟩ := hs
  refine .seq ?_
  refine run_reg ?_
  refine e_clr ?_
  refine e_end ?_
  refine g_box (.agg [(.int .i64 g_1.1), (Enc.enc (g_1.2 : List (Int × Int)))]) (rd_of (keep_clear (s := s) (pk := [3]) h0 rfl (map_agg (maps_cons rfl (maps_cons (Enc.map_enc _ (g_1.2 : List (Int × Int))) maps_nil)))) rfl) (gone_clear (s := s) (pk := [3]) (t := 3) rfl) rfl ?_
  refine g_v0 (.sl .nl (Enc.shp Int) 0 []) rfl rfl ?_
  refine g_end ?_
  refine e_end ?_
  refine renew [(1, (Enc.enc (gone_2 : List Int))), (2, (.int .i64 x_3)), (3, (.ref (.bx 3) 0 [] (.agg [(.int .i64 g_1.1), (Enc.enc (g_1.2 : List (Int × Int)))]))), (6, (.sl .nl (Enc.shp Int) 0 []))] ⟨(keep_clear (s := s) (pk := [3]) h1 rfl (Enc.map_enc _ (gone_2 : List Int))), (keep_clear (s := s) (pk := [3]) h2 rfl rfl), rfl, rfl⟩ ?_
  rintro s ⟨h1, h2, h3, h6⟩
  refine .nsq ?_
  refine .seq ?_
  refine run_reg ?_
  refine e_clr ?_
  refine e_end ?_
  refine g_litL [] [] trivial rfl rfl (gone_clear (s := s) (pk := [12, 14]) (t := 12) rfl) ?_
  refine g_v1 (t := 2) (u := (.int .i64 x_3)) (.int .i64 x_3) (keep_clear (s := s) (pk := [12, 14]) h2 rfl rfl) rfl rfl ?_
  refine g_litL [(13, (.int .i64 x_3))] [Enc.enc (x_3 : Int)] rfl rfl rfl (gone_clear (s := s) (pk := [12, 14]) (t := 14) rfl) ?_
  refine g_v1 (t := 12) (u := (encO (.at 12 []) (.of ([] : List Int)))) (encO (.at 12 []) (.of ([] : List Int))) rfl rfl rfl ?_
  refine g_v1 (t := 14) (u := (encO (.at 14 []) (.of ([x_3] : List Int)))) (encO (.at 14 []) (.of ([x_3] : List Int))) rfl rfl rfl ?_
  refine g_end ?_
  refine e_home (r := 12) (x := 7) (v := (encO (.at 12 []) (.of ([] : List Int)))) (by exact rfl) rfl (fun s_3 hg_3 => ?_)
  refine e_home (r := 14) (x := 8) (v := (encO (.at 14 []) (.of ([x_3] : List Int)))) (by exact (hg_3 8 (encO (.at 14 []) (.of ([x_3] : List Int))) (encO (.at 14 []) (.of ([x_3] : List Int))) rfl (map_encO (r := 14) (p := []) rfl rfl))) rfl (fun s_4 hg_4 => ?_)
  refine e_frz (x := 7) (v := (encO (.at 7 []) (.of ([] : List Int)))) [(.at 7 [])] (by exact (hg_4 7 (encO (.at 7 []) (.of ([] : List Int))) (encO (.at 7 []) (.of ([] : List Int))) (hg_3 7 (encO (.at 12 []) (.of ([] : List Int))) (encO (.at 7 []) (.of ([] : List Int))) rfl (map_encO (r := 12) (p := []) rfl rfl)) (map_encO (r := 7) (p := []) rfl rfl))) toks_ownL (fun s_5 hg_5 => ?_)
  refine e_end ?_
  refine renew [(1, (Enc.enc (gone_2 : List Int))), (3, (.ref (.bx 3) 0 [] (.agg [(.int .i64 g_1.1), (Enc.enc (g_1.2 : List (Int × Int)))]))), (6, (.sl .nl (Enc.shp Int) 0 [])), (7, (Enc.enc ([] : List Int))), (8, (encO (.at 8 []) (.of ([x_3] : List Int))))] ⟨(hg_5 1 (Enc.enc (gone_2 : List Int)) (Enc.enc (gone_2 : List Int)) (hg_4 1 (Enc.enc (gone_2 : List Int)) (Enc.enc (gone_2 : List Int)) (hg_3 1 (Enc.enc (gone_2 : List Int)) (Enc.enc (gone_2 : List Int)) (keep_clear (s := s) (pk := [12, 14]) h1 rfl (Enc.map_enc _ (gone_2 : List Int))) (Enc.map_enc _ (gone_2 : List Int))) (Enc.map_enc _ (gone_2 : List Int))) (Enc.frz_enc _ (gone_2 : List Int))), (hg_5 3 (.ref (.bx 3) 0 [] (.agg [(.int .i64 g_1.1), (Enc.enc (g_1.2 : List (Int × Int)))])) (.ref (.bx 3) 0 [] (.agg [(.int .i64 g_1.1), (Enc.enc (g_1.2 : List (Int × Int)))])) (hg_4 3 (.ref (.bx 3) 0 [] (.agg [(.int .i64 g_1.1), (Enc.enc (g_1.2 : List (Int × Int)))])) (.ref (.bx 3) 0 [] (.agg [(.int .i64 g_1.1), (Enc.enc (g_1.2 : List (Int × Int)))])) (hg_3 3 (.ref (.bx 3) 0 [] (.agg [(.int .i64 g_1.1), (Enc.enc (g_1.2 : List (Int × Int)))])) (.ref (.bx 3) 0 [] (.agg [(.int .i64 g_1.1), (Enc.enc (g_1.2 : List (Int × Int)))])) (keep_clear (s := s) (pk := [12, 14]) h3 rfl (map_bx rfl (map_agg (maps_cons rfl (maps_cons (Enc.map_enc _ (g_1.2 : List (Int × Int))) maps_nil))))) (map_bx rfl (map_agg (maps_cons rfl (maps_cons (Enc.map_enc _ (g_1.2 : List (Int × Int))) maps_nil))))) (map_bx rfl (map_agg (maps_cons rfl (maps_cons (Enc.map_enc _ (g_1.2 : List (Int × Int))) maps_nil))))) (frz_ref_ne rfl (frz_agg (frzs_cons rfl (frzs_cons (Enc.frz_enc _ (g_1.2 : List (Int × Int))) rfl))) rfl)), (hg_5 6 (.sl .nl (Enc.shp Int) 0 []) (.sl .nl (Enc.shp Int) 0 []) (hg_4 6 (.sl .nl (Enc.shp Int) 0 []) (.sl .nl (Enc.shp Int) 0 []) (hg_3 6 (.sl .nl (Enc.shp Int) 0 []) (.sl .nl (Enc.shp Int) 0 []) (keep_clear (s := s) (pk := [12, 14]) h6 rfl rfl) rfl) rfl) rfl), (hg_5 7 (encO (.at 7 []) (.of ([] : List Int))) (Enc.enc ([] : List Int)) (hg_4 7 (encO (.at 7 []) (.of ([] : List Int))) (encO (.at 7 []) (.of ([] : List Int))) (hg_3 7 (encO (.at 12 []) (.of ([] : List Int))) (encO (.at 7 []) (.of ([] : List Int))) rfl (map_encO (r := 12) (p := []) rfl rfl)) (map_encO (r := 7) (p := []) rfl rfl)) frz_own), (hg_5 8 (encO (.at 8 []) (.of ([x_3] : List Int))) (encO (.at 8 []) (.of ([x_3] : List Int))) (hg_4 8 (encO (.at 14 []) (.of ([x_3] : List Int))) (encO (.at 8 []) (.of ([x_3] : List Int))) (hg_3 8 (encO (.at 14 []) (.of ([x_3] : List Int))) (encO (.at 14 []) (.of ([x_3] : List Int))) rfl (map_encO (r := 14) (p := []) rfl rfl)) (map_encO (r := 14) (p := []) rfl rfl)) (frz_own_ne rfl rfl))⟩ ?_
  rintro s ⟨h1, h3, h6, h7, h8⟩
  refine .nsq ?_
  refine .seq ?_
  refine .seq ?_
  refine run_reg ?_
  refine e_end ?_
  refine g_v0 (.int .i64 0) rfl rfl ?_
  refine g_end ?_
  refine e_end ?_
  refine renew [(1, (Enc.enc (gone_2 : List Int))), (3, (.ref (.bx 3) 0 [] (.agg [(.int .i64 g_1.1), (Enc.enc (g_1.2 : List (Int × Int)))]))), (6, (.sl .nl (Enc.shp Int) 0 [])), (7, (Enc.enc ([] : List Int))), (8, (encO (.at 8 []) (.of ([x_3] : List Int)))), (9, (.int .i64 0))] ⟨h1, h3, h6, h7, h8, rfl⟩ ?_
  rintro s ⟨h1, h3, h6, h7, h8, h9⟩
  refine .nsq ?_
  refine .block ?_
  refine .loop ?_
  exact t_f129_l2 H gone_2 g_1 F [] [x_3] 0 _ ⟨h1, h3, h6, h7, h8, h9⟩ h
end
def e129 (F : Nat) : Ent := ⟨129, da (fun (x : ((Int × (List (Int × Int))) × (List Int) × Int × Unit)) => s_l5Later F x.1 x.2.1 x.2.2.1) (fun (r : (List Int)) => (Enc.enc (r : (List Int)))), 0, true, selF []⟩
theorem p129 {F : Nat} {x0 : (Int × (List (Int × Int)))} {x1 : (List Int)} {x2 : Int} {r : (List Int)} (h : s_l5Later F x0 x1 x2 = some r) : (e129 F).den [Enc.enc x0, Enc.enc x1, Enc.enc x2] = some (Enc.enc (r : (List Int))) := da_put (f := fun (x : ((Int × (List (Int × Int))) × (List Int) × Int × Unit)) => s_l5Later F x.1 x.2.1 x.2.2.1) (t := fun (r : (List Int)) => (Enc.enc (r : (List Int)))) (x0, x1, x2, ()) h
theorem o129 {D : Den} {σ : Sig} {F : Nat} (hF : Fits2 Try.prog D σ) (H : H129 D σ F) : (e129 F).Ok Try.prog := by
  refine ok_of (f := 129) (show unk 129 = 129 from rfl) (fun args r h => ?_) ⟨Try.f129, Try.func129, rfl, rfl⟩
  obtain ⟨⟨x0, x1, x2, _⟩, y, rfl, hy, rfl⟩ := da_open h
  exact contract_run hF (by kernel_rfl) Try.func129 rfl c129 (show 3 ≤ Try.f129.ntmps by decide) (t129 H x0 x1 x2 _ ⟨rfl, rfl, rfl⟩ hy)
/- loop.example/g01109/spec.l1Most -/
def A47_2 : AC := (AC.cond (O.t 7) (AC.seq (AC.reg [] [(I.mk (some 8) none false (X.v (A.mov (O.t 0)))), (I.mk (some 4) none false (X.v (A.mov (O.t 8))))] []) AC.ret) AC.skip)
def A47_3 : AC := (AC.seq (AC.reg [] [(I.mk (some 9) none false (X.v (A.mov (O.t 1)))), (I.mk (some 4) none false (X.v (A.mov (O.t 9))))] []) AC.ret)
def A47_1 : AC := (AC.seq (AC.seq (AC.reg [] [(I.mk (some 5) none false (X.v (A.mov (O.t 0)))), (I.mk (some 6) none false (X.v (A.mov (O.t 1)))), (I.mk (some 7) none false (X.v (A.bin BinOp.gtr (O.t 5) (O.t 6))))] []) A47_2) A47_3)
def A47 : AC := (AC.seq (AC.reg [] [(I.mk (some 4) none false (X.v (A.mov (O.k (V.int IntKind.i64 (Int.ofNat 0))))))] []) A47_1)
def an47 : List An := []
theorem c47 : cC Try.prog Try.f47.ntmps an47 (Try.f47.body.getD .skip) = some A47 := by kernel_rfl
structure H47 (D : Den) (σ : Sig) (F : Nat) : Prop where
  mk ::
abbrev R47 (r : Int) : (Nat → V) → Prop := RR Try.prog [.tmp 4] 0 false (Enc.enc (r : Int))
section
variable {D : Den} {σ : Sig} {F : Nat} {r : Int}
def s_l1Most (F : Nat) (a_1 : Int) (b_2 : Int) : Option Int :=
  bif decide (a_1 > b_2) then
    some a_1
  else
    some b_2
theorem t47 (H : H47 D σ F) (a_1 : Int) (b_2 : Int) (s : Nat → V) (hs : Facts [(0, (.int .i64 a_1)), (1, (.int .i64 b_2))] s) (h : s_l1Most F a_1 b_2 = some r) : Run D σ (R47 r) (.run A47 []) s := by
  unfold s_l1Most at h
  obtain ⟨h0, h1⟩ := hs
  refine .seq ?_
  refine run_reg ?_
  refine e_end ?_
  refine g_v0 (.int .i64 0) rfl rfl ?_
  refine g_end ?_
  refine e_end ?_
  refine renew [(0, (.int .i64 a_1)), (1, (.int .i64 b_2)), (4, (.int .i64 0))] ⟨h0, h1, rfl⟩ ?_
  rintro s ⟨h0, h1, h4⟩
  refine .nsq ?_
  refine .seq ?_
  refine .seq ?_
  refine run_reg ?_
  refine e_end ?_
  refine g_v1 (t := 0) (u := (.int .i64 a_1)) (.int .i64 a_1) h0 rfl rfl ?_
  refine g_v1 (t := 1) (u := (.int .i64 b_2)) (.int .i64 b_2) h1 rfl rfl ?_
  refine g_v2 (t1 := 5) (t2 := 6) (u1 := (.int .i64 a_1)) (u2 := (.int .i64 b_2)) (.bool (decide (a_1 > b_2))) rfl rfl rfl rfl ?_
  refine g_end ?_
  refine e_end ?_
  refine renew [(0, (.int .i64 a_1)), (1, (.int .i64 b_2)), (4, (.int .i64 0)), (7, (.bool (decide (a_1 > b_2))))] ⟨h0, h1, h4, rfl⟩ ?_
  rintro s ⟨h0, h1, h4, h7⟩
  refine .nsq ?_
  refine run_cond (t := decide (a_1 > b_2)) h7 h (fun h => ?_) (fun h => ?_)
  · refine .seq ?_
    refine run_reg ?_
    refine e_end ?_
    refine g_v1 (t := 0) (u := (.int .i64 a_1)) (.int .i64 a_1) h0 rfl rfl ?_
    refine g_v1 (t := 8) (u := (.int .i64 a_1)) (.int .i64 a_1) rfl rfl rfl ?_
    refine g_end ?_
    refine e_end ?_
    refine renew [(1, (.int .i64 b_2)), (4, (.int .i64 a_1))] ⟨h1, rfl⟩ ?_
    rintro s ⟨h1, h4⟩
    refine .nsq ?_
    refine .ret ?_
    have hr := Option.some.inj h
    subst hr
    exact rrA (res_tmp h4) rfl
  · refine .skip ?_
    refine .nsq ?_
    refine .seq ?_
    refine run_reg ?_
    refine e_end ?_
    refine g_v1 (t := 1) (u := (.int .i64 b_2)) (.int .i64 b_2) h1 rfl rfl ?_
    refine g_v1 (t := 9) (u := (.int .i64 b_2)) (.int .i64 b_2) rfl rfl rfl ?_
    refine g_end ?_
    refine e_end ?_
    refine renew [(4, (.int .i64 b_2))] rfl ?_
    rintro s h4
    refine .nsq ?_
    refine .ret ?_
    have hr := Option.some.inj h
    subst hr
    exact rrA (res_tmp h4) rfl
end
def e47 (F : Nat) : Ent := ⟨47, da (fun (x : (Int × Int × Unit)) => s_l1Most F x.1 x.2.1) (fun (r : Int) => (Enc.enc (r : Int))), 0, false, selF []⟩
theorem p47 {F : Nat} {x0 : Int} {x1 : Int} {r : Int} (h : s_l1Most F x0 x1 = some r) : (e47 F).den [Enc.enc x0, Enc.enc x1] = some (Enc.enc (r : Int)) := da_put (f := fun (x : (Int × Int × Unit)) => s_l1Most F x.1 x.2.1) (t := fun (r : Int) => (Enc.enc (r : Int))) (x0, x1, ()) h
theorem o47 {D : Den} {σ : Sig} {F : Nat} (hF : Fits2 Try.prog D σ) (H : H47 D σ F) : (e47 F).Ok Try.prog := by
  refine ok_of (f := 47) (show unk 47 = 47 from rfl) (fun args r h => ?_) ⟨Try.f47, Try.func47, rfl, rfl⟩
  obtain ⟨⟨x0, x1, _⟩, y, rfl, hy, rfl⟩ := da_open h
  exact contract_run hF (by kernel_rfl) Try.func47 rfl c47 (show 2 ≤ Try.f47.ntmps by decide) (t47 H x0 x1 _ ⟨rfl, rfl⟩ hy)
/- loop.example/g01109/spec.l5Width -/
def A95_2 : AC := (AC.cond (O.t 10) AC.skip (AC.exit 0))
def A95_4 : AC := (AC.reg [] [(I.mk (some 11) none false (X.v (A.mov (O.t 6)))), (I.mk (some 12) none false (X.v (A.bin BinOp.add (O.t 11) (O.k (V.int IntKind.i64 (Int.ofNat 1)))))), (I.mk (some 6) none false (X.v (A.mov (O.t 12))))] [])
def A95_3 : AC := (AC.seq (AC.block 1 (AC.reg [] [(I.mk (some 13) none false (X.v (A.mov (O.t 5)))), (I.mk (some 14) none false (X.v (A.load (Sh.ag [Sh.s, Sh.p]) (O.t 2)))), (I.mk (some 15) none false (X.v (A.mov (O.t 1)))), (I.mk (some 16) none false (X.v (A.mov (O.t 6)))), (I.mk (some 17) none false (X.v (A.slice (O.t 15) none (some (O.t 16)) 1))), (I.mk (some 18) none false (X.v (A.mov (O.t 1)))), (I.mk (some 19) none false (X.v (A.mov (O.t 6)))), (I.mk (some 20) none false (X.v (A.idx (O.t 18) (O.t 19) 1))), (I.mk (some 21) none false (X.v (A.load Sh.s (O.t 20)))), (I.mk (some 22) none false (X.call (O.k (V.fn 129 [] [])) [(O.t 14), (O.t 17), (O.t 21)])), (I.mk (some 23) none false (X.v (A.len (O.t 22)))), (I.mk (some 24) none false (X.call (O.k (V.fn 47 [] [])) [(O.t 13), (O.t 23)])), (I.mk (some 5) none false (X.v (A.mov (O.t 24))))] [])) A95_4)
def A95_1 : AC := (AC.seq (AC.seq (AC.reg [] [(I.mk (some 7) none false (X.v (A.mov (O.t 6)))), (I.mk (some 8) none false (X.v (A.mov (O.t 1)))), (I.mk (some 9) none false (X.v (A.len (O.t 8)))), (I.mk (some 10) none false (X.v (A.bin BinOp.lss (O.t 7) (O.t 9))))] []) A95_2) A95_3)
def A95_5 : AC := (AC.seq (AC.reg [] [(I.mk (some 25) none false (X.v (A.mov (O.t 5)))), (I.mk (some 4) none false (X.v (A.mov (O.t 25))))] []) AC.ret)
def A95_8 : AC := (AC.block 0 (AC.loop A95_1))
def A95_7 : AC := (AC.seq (AC.seq (AC.reg [] [(I.mk (some 6) none false (X.v (A.mov (O.k (V.int IntKind.i64 (Int.ofNat 0))))))] []) A95_8) A95_5)
def A95_6 : AC := (AC.seq (AC.reg [] [(I.mk (some 5) none false (X.v (A.mov (O.k (V.int IntKind.i64 (Int.negSucc 0))))))] []) A95_7)
def A95 : AC := (AC.seq (AC.reg [.clr [2]] [(I.mk (some 2) none false (X.box (O.t 0))), (I.mk (some 4) none false (X.v (A.mov (O.k (V.int IntKind.i64 (Int.ofNat 0))))))] []) A95_6)
def an95 : List An := [{ id := 0, pre := [.clr [2]], ep := [], lin := [], sp := [] }]
theorem c95 : cC Try.prog Try.f95.ntmps an95 (Try.f95.body.getD .skip) = some A95 := by kernel_rfl
structure H95 (D : Den) (σ : Sig) (F : Nat) : Prop where
  c129 : ∀ (x0 : (Int × (List (Int × Int)))) (x1 : (List Int)) (x2 : Int) r, s_l5Later F x0 x1 x2 = some r → D 129 [Enc.enc x0, Enc.enc x1, Enc.enc x2] = some (Enc.enc (r : (List Int)))
  g129 : σ 129 = some (0, true)
  c47 : ∀ (x0 : Int) (x1 : Int) r, s_l1Most F x0 x1 = some r → D 47 [Enc.enc x0, Enc.enc x1] = some (Enc.enc (r : Int))
  g47 : σ 47 = some (0, false)
abbrev R95 (r : Int) : (Nat → V) → Prop := RR Try.prog [.tmp 4] 0 false (Enc.enc (r : Int))
section
variable {D : Den} {σ : Sig} {F : Nat} {r : Int}
def s_l5Width_l1 (F : Nat) (order_2 : (List Int)) (g_1 : (Int × (List (Int × Int))))  : Nat → Int → Int → Option Int
  | 0, _, _ => none
  | k + 1, most_7, i_8 =>
    bif decide (i_8 < (order_2.length : Int)) then
      (sub order_2 0 i_8).bind fun sub_13 =>
      (idx order_2 i_8).bind fun e_14 =>
      (s_l5Later F g_1 sub_13 e_14).bind fun r_15 =>
      (s_l1Most F most_7 (r_15.length : Int)).bind fun r_16 =>
      (s_l5Width_l1 F order_2 g_1 k) r_16 (w64 (i_8 + 1))
    else
      some most_7
theorem t_f95_l1 (H : H95 D σ F) (order_2 : (List Int)) (g_1 : (Int × (List (Int × Int))))  : ∀ (k : Nat) (most_7 : Int) (i_8 : Int) (s : Nat → V), Facts [(1, (Enc.enc (order_2 : List Int))), (2, (.ref (.bx 2) 0 [] (.agg [(.int .i64 g_1.1), (Enc.enc (g_1.2 : List (Int × Int)))]))), (4, (.int .i64 0)), (5, (.int .i64 most_7)), (6, (.int .i64 i_8))] s → s_l5Width_l1 F order_2 g_1 k most_7 i_8 = some r → Run D σ (R95 r) (.run A95_1 [.lp A95_1, .bk 0, .sq A95_5]) s := by
  intro k
  induction k with
  | zero => intro most_7 i_8 s _ h; exact nomatch (h : (none : Option _) = some r)
  | succ k ih =>
    intro most_7 i_8 s hs h
    rw [s_l5Width_l1] at h
    obtain ⟨h1, h2, h4, h5, h6⟩ := hs
    refine .seq ?_
    refine .seq ?_
    refine run_reg ?_
    refine e_end ?_
    refine g_v1 (t := 6) (u := (.int .i64 i_8)) (.int .i64 i_8) h6 rfl rfl ?_
    refine g_v1 (t := 1) (u := (Enc.enc (order_2 : List Int))) (Enc.enc (order_2 : List Int)) h1 rfl rfl ?_
    refine g_v (.int .i64 (order_2.length : Int)) (ev_len (xs := order_2) rfl) ?_
    refine g_v2 (t1 := 7) (t2 := 9) (u1 := (.int .i64 i_8)) (u2 := (.int .i64 (order_2.length : Int))) (.bool (decide (i_8 < (order_2.length : Int)))) rfl rfl rfl rfl ?_
    refine g_end ?_
    refine e_end ?_
    refine renew [(1, (Enc.enc (order_2 : List Int))), (2, (.ref (.bx 2) 0 [] (.agg [(.int .i64 g_1.1), (Enc.enc (g_1.2 : List (Int × Int)))]))), (4, (.int .i64 0)), (5, (.int .i64 most_7)), (6, (.int .i64 i_8)), (10, (.bool (decide (i_8 < (order_2.length : Int)))))] ⟨h1, h2, h4, h5, h6, rfl⟩ ?_
    rintro s ⟨h1, h2, h4, h5, h6, h10⟩
    refine .nsq ?_
    refine run_cond (t := decide (i_8 < (order_2.length : Int))) h10 h (fun h => ?_) (fun h => ?_)
    · refine .skip ?_
      refine .nsq ?_
      refine .seq ?_
      refine .block ?_
      refine run_reg ?_
      refine e_end ?_
      refine g_v1 (t := 5) (u := (.int .i64 most_7)) (.int .i64 most_7) h5 rfl rfl ?_
      refine g_v1 (t := 2) (u := (.ref (.bx 2) 0 [] (.agg [(.int .i64 g_1.1), (Enc.enc (g_1.2 : List (Int × Int)))]))) (.agg [(.int .i64 g_1.1), (Enc.enc (g_1.2 : List (Int × Int)))]) h2 rfl rfl ?_
      refine g_v1 (t := 1) (u := (Enc.enc (order_2 : List Int))) (Enc.enc (order_2 : List Int)) h1 rfl rfl ?_
      refine g_v1 (t := 6) (u := (.int .i64 i_8)) (.int .i64 i_8) h6 rfl rfl ?_
      obtain ⟨sub_13, E_sub_13, h⟩ := bind_some h
      refine g_v (Enc.enc (sub_13 : List Int)) (ev_slice (xs := order_2) rfl (optI_none) (optI_some rfl) E_sub_13 rfl) ?_
      refine g_v1 (t := 1) (u := (Enc.enc (order_2 : List Int))) (Enc.enc (order_2 : List Int)) h1 rfl rfl ?_
      refine g_v1 (t := 6) (u := (.int .i64 i_8)) (.int .i64 i_8) h6 rfl rfl ?_
      obtain ⟨e_14, E_e_14, h⟩ := bind_some h
      refine g_v (.ref .sh 0 [] (.int .i64 e_14)) (ev_idx (t := .sh) (lo := 0) (xs := order_2) rfl rfl E_e_14 rfl rfl) ?_
      refine g_v1 (t := 20) (u := (.ref .sh 0 [] (.int .i64 e_14))) (.int .i64 e_14) rfl rfl rfl ?_
      obtain ⟨r_15, E_r_15, h⟩ := bind_some h
      refine g_call (m := 0) (al := true) (r := (Enc.enc (r_15 : (List Int)))) [Enc.enc (g_1 : (Int × (List (Int × Int)))), Enc.enc (sub_13 : (List Int)), Enc.enc (e_14 : Int)] (ta_cons (v := (.agg [(.int .i64 g_1.1), (Enc.enc (g_1.2 : List (Int × Int)))])) rfl rfl (Enc.erase_enc (g_1 : (Int × (List (Int × Int))))) (ta_cons (v := (Enc.enc (sub_13 : List Int))) rfl rfl (Enc.erase_enc (sub_13 : (List Int))) (ta_cons (v := (.int .i64 e_14)) rfl rfl rfl ta_nil))) (H.c129 _ _ _ _ E_r_15) H.g129 (hal_of (ht_cons (v := (.agg [(.int .i64 g_1.1), (Enc.enc (g_1.2 : List (Int × Int)))])) rfl rfl rfl (ht_cons (v := (Enc.enc (sub_13 : List Int))) rfl rfl rfl (ht_cons (v := (.int .i64 e_14)) rfl rfl rfl ht_nil)))) rfl rfl rfl ?_
      refine g_v (.int .i64 (r_15.length : Int)) (ev_len (xs := r_15) rfl) ?_
      obtain ⟨r_16, E_r_16, h⟩ := bind_some h
      refine g_call (m := 0) (al := false) (r := (Enc.enc (r_16 : Int))) [Enc.enc (most_7 : Int), Enc.enc ((r_15.length : Int) : Int)] (ta_cons (v := (.int .i64 most_7)) rfl rfl rfl (ta_cons (v := (.int .i64 (r_15.length : Int))) rfl rfl rfl ta_nil)) (H.c47 _ _ _ E_r_16) H.g47 rfl rfl rfl rfl ?_
      refine g_v1 (t := 24) (u := (.int .i64 r_16)) (.int .i64 r_16) rfl rfl rfl ?_
      refine g_end ?_
      refine e_end ?_
      refine renew [(1, (Enc.enc (order_2 : List Int))), (2, (.ref (.bx 2) 0 [] (.agg [(.int .i64 g_1.1), (Enc.enc (g_1.2 : List (Int × Int)))]))), (4, (.int .i64 0)), (5, (.int .i64 r_16)), (6, (.int .i64 i_8))] ⟨h1, h2, h4, rfl, h6⟩ ?_
      rintro s ⟨h1, h2, h4, h5, h6⟩
      refine .nbk ?_
      refine .nsq ?_
      refine run_reg ?_
      refine e_end ?_
      refine g_v1 (t := 6) (u := (.int .i64 i_8)) (.int .i64 i_8) h6 rfl rfl ?_
      refine g_v1 (t := 11) (u := (.int .i64 i_8)) (.int .i64 (w64 (i_8 + 1))) rfl rfl rfl ?_
      refine g_v1 (t := 12) (u := (.int .i64 (w64 (i_8 + 1)))) (.int .i64 (w64 (i_8 + 1))) rfl rfl rfl ?_
      refine g_end ?_
      refine e_end ?_
      refine renew [(1, (Enc.enc (order_2 : List Int))), (2, (.ref (.bx 2) 0 [] (.agg [(.int .i64 g_1.1), (Enc.enc (g_1.2 : List (Int × Int)))]))), (4, (.int .i64 0)), (5, (.int .i64 r_16)), (6, (.int .i64 (w64 (i_8 + 1))))] ⟨h1, h2, h4, h5, rfl⟩ ?_
      rintro s ⟨h1, h2, h4, h5, h6⟩
      refine .nlp ?_
      exact ih r_16 (w64 (i_8 + 1)) _ ⟨h1, h2, h4, h5, h6⟩ h
    · refine .exit ?_
      refine .esq ?_
      refine .elp ?_
      refine .ebk ?_
      refine .nsq ?_
      refine .seq ?_
      refine run_reg ?_
      refine e_end ?_
      refine g_v1 (t := 5) (u := (.int .i64 most_7)) (.int .i64 most_7) h5 rfl rfl ?_
      refine g_v1 (t := 25) (u := (.int .i64 most_7)) (.int .i64 most_7) rfl rfl rfl ?_
      refine g_end ?_
      refine e_end ?_
      refine renew [(4, (.int .i64 most_7))] rfl ?_
      rintro s h4
      refine .nsq ?_
      refine .ret ?_
      have hr := Option.some.inj h
      subst hr
      exact rrA (res_tmp h4) rfl
def s_l5Width (F : Nat) (g_1 : (Int × (List (Int × Int)))) (order_2 : (List Int)) : Option Int :=
  s_l5Width_l1 F order_2 g_1 F (-1) 0
theorem t95 (H : H95 D σ F) (g_1 : (Int × (List (Int × Int)))) (order_2 : (List Int)) (s : Nat → V) (hs : Facts [(0, (.agg [(.int .i64 g_1.1), (Enc.enc (g_1.2 : List (Int × Int)))])), (1, (Enc.enc (order_2 : List Int)))] s) (h : s_l5Width F g_1 order_2 = some r) : Run D σ (R95 r) (.run A95 []) s := by
  unfold s_l5Width at h
  obtain ⟨h0, h1⟩ := hs
  refine .seq ?_
  refine run_reg ?_
  refine e_clr ?_
  refine e_end ?_
  refine g_box (.agg [(.int .i64 g_1.1), (Enc.enc (g_1.2 : List (Int × Int)))]) (rd_of (keep_clear (s := s) (pk := [2]) h0 rfl (map_agg (maps_cons rfl (maps_cons (Enc.map_enc _ (g_1.2 : List (Int × Int))) maps_nil)))) rfl) (gone_clear (s := s) (pk := [2]) (t := 2) rfl) rfl ?_
  refine g_v0 (.int .i64 0) rfl rfl ?_
  refine g_end ?_
  refine e_end ?_
  refine renew [(1, (Enc.enc (order_2 : List Int))), (2, (.ref (.bx 2) 0 [] (.agg [(.int .i64 g_1.1), (Enc.enc (g_1.2 : List (Int × Int)))]))), (4, (.int .i64 0))] ⟨(keep_clear (s := s) (pk := [2]) h1 rfl (Enc.map_enc _ (order_2 : List Int))), rfl, rfl⟩ ?_
  rintro s ⟨h1, h2, h4⟩
  refine .nsq ?_
  refine .seq ?_
  refine run_reg ?_
  refine e_end ?_
  refine g_v0 (.int .i64 (-1)) rfl rfl ?_
  refine g_end ?_
  refine e_end ?_
  refine renew [(1, (Enc.enc (order_2 : List Int))), (2, (.ref (.bx 2) 0 [] (.agg [(.int .i64 g_1.1), (Enc.enc (g_1.2 : List (Int × Int)))]))), (4, (.int .i64 0)), (5, (.int .i64 (-1)))] ⟨h1, h2, h4, rfl⟩ ?_
  rintro s ⟨h1, h2, h4, h5⟩
  refine .nsq ?_
  refine .seq ?_
  refine .seq ?_
  refine run_reg ?_
  refine e_end ?_
  refine g_v0 (.int .i64 0) rfl rfl ?_
  refine g_end ?_
  refine e_end ?_
  refine renew [(1, (Enc.enc (order_2 : List Int))), (2, (.ref (.bx 2) 0 [] (.agg [(.int .i64 g_1.1), (Enc.enc (g_1.2 : List (Int × Int)))]))), (4, (.int .i64 0)), (5, (.int .i64 (-1))), (6, (.int .i64 0))] ⟨h1, h2, h4, h5, rfl⟩ ?_
  rintro s ⟨h1, h2, h4, h5, h6⟩
  refine .nsq ?_
  refine .block ?_
  refine .loop ?_
  exact t_f95_l1 H order_2 g_1 F (-1) 0 _ ⟨h1, h2, h4, h5, h6⟩ h
end
def e95 (F : Nat) : Ent := ⟨95, da (fun (x : ((Int × (List (Int × Int))) × (List Int) × Unit)) => s_l5Width F x.1 x.2.1) (fun (r : Int) => (Enc.enc (r : Int))), 0, false, selF []⟩
theorem p95 {F : Nat} {x0 : (Int × (List (Int × Int)))} {x1 : (List Int)} {r : Int} (h : s_l5Width F x0 x1 = some r) : (e95 F).den [Enc.enc x0, Enc.enc x1] = some (Enc.enc (r : Int)) := da_put (f := fun (x : ((Int × (List (Int × Int))) × (List Int) × Unit)) => s_l5Width F x.1 x.2.1) (t := fun (r : Int) => (Enc.enc (r : Int))) (x0, x1, ()) h
theorem o95 {D : Den} {σ : Sig} {F : Nat} (hF : Fits2 Try.prog D σ) (H : H95 D σ F) : (e95 F).Ok Try.prog := by
  refine ok_of (f := 95) (show unk 95 = 95 from rfl) (fun args r h => ?_) ⟨Try.f95, Try.func95, rfl, rfl⟩
  obtain ⟨⟨x0, x1, _⟩, y, rfl, hy, rfl⟩ := da_open h
  exact contract_run hF (by kernel_rfl) Try.func95 rfl c95 (show 2 ≤ Try.f95.ntmps by decide) (t95 H x0 x1 _ ⟨rfl, rfl⟩ hy)
/- loop.example/g01109/spec.EliminationWidth -/
def A42_2 : AC := (AC.cond (O.t 9) (AC.seq (AC.reg [] [(I.mk (some 4) none false (X.v (A.mov (O.k (V.int IntKind.i64 (Int.ofNat 0)))))), (I.mk (some 5) none false (X.v (A.mov (O.k (V.bool false)))))] []) AC.ret) AC.skip)
def A42_3 : AC := (AC.seq (AC.reg [] [(I.mk (some 10) none false (X.v (A.load (Sh.ag [Sh.s, Sh.p]) (O.t 2)))), (I.mk (some 11) none false (X.v (A.mov (O.t 1)))), (I.mk (some 12) none false (X.call (O.k (V.fn 95 [] [])) [(O.t 10), (O.t 11)])), (I.mk (some 4) none false (X.v (A.mov (O.t 12)))), (I.mk (some 5) none false (X.v (A.mov (O.k (V.bool true)))))] []) AC.ret)
def A42_1 : AC := (AC.seq (AC.seq (AC.reg [] [(I.mk (some 6) none false (X.v (A.load (Sh.ag [Sh.s, Sh.p]) (O.t 2)))), (I.mk (some 7) none false (X.v (A.mov (O.t 1)))), (I.mk (some 8) none false (X.call (O.k (V.fn 94 [] [])) [(O.t 6), (O.t 7)])), (I.mk (some 9) none false (X.v (A.un UnOp.not (O.t 8))))] []) A42_2) A42_3)
def A42 : AC := (AC.seq (AC.reg [.clr [2]] [(I.mk (some 2) none false (X.box (O.t 0))), (I.mk (some 4) none false (X.v (A.mov (O.k (V.int IntKind.i64 (Int.ofNat 0)))))), (I.mk (some 5) none false (X.v (A.mov (O.k (V.bool false)))))] []) A42_1)
def an42 : List An := [{ id := 0, pre := [.clr [2]], ep := [], lin := [], sp := [] }]
theorem c42 : cC Try.prog Try.f42.ntmps an42 (Try.f42.body.getD .skip) = some A42 := by kernel_rfl
structure H42 (D : Den) (σ : Sig) (F : Nat) : Prop where
  c94 : ∀ (x0 : (Int × (List (Int × Int)))) (x1 : (List Int)) r, s_l5Order F x0 x1 = some r → D 94 [Enc.enc x0, Enc.enc x1] = some (Enc.enc (r : Bool))
  g94 : σ 94 = some (0, false)
  c95 : ∀ (x0 : (Int × (List (Int × Int)))) (x1 : (List Int)) r, s_l5Width F x0 x1 = some r → D 95 [Enc.enc x0, Enc.enc x1] = some (Enc.enc (r : Int))
  g95 : σ 95 = some (0, false)
abbrev R42 (r : (Int × Bool)) : (Nat → V) → Prop := RR Try.prog [.tmp 4, .tmp 5] 0 false (.tup [Enc.enc (r.1 : Int), Enc.enc (r.2 : Bool)])
section
variable {D : Den} {σ : Sig} {F : Nat} {r : (Int × Bool)}
def s_EliminationWidth (F : Nat) (g_1 : (Int × (List (Int × Int)))) (order_2 : (List Int)) : Option (Int × Bool) :=
  (s_l5Order F g_1 order_2).bind fun r_3 =>
  bif (!r_3) then
    some (0, false)
  else
    (s_l5Width F g_1 order_2).bind fun r_4 =>
    some (r_4, true)
theorem t42 (H : H42 D σ F) (g_1 : (Int × (List (Int × Int)))) (order_2 : (List Int)) (s : Nat → V) (hs : Facts [(0, (.agg [(.int .i64 g_1.1), (Enc.enc (g_1.2 : List (Int × Int)))])), (1, (Enc.enc (order_2 : List Int)))] s) (h : s_EliminationWidth F g_1 order_2 = some r) : Run D σ (R42 r) (.run A42 []) s := by
  unfold s_EliminationWidth at h
  obtain ⟨h0, h1⟩ := hs
  refine .seq ?_
  refine run_reg ?_
  refine e_clr ?_
  refine e_end ?_
  refine g_box (.agg [(.int .i64 g_1.1), (Enc.enc (g_1.2 : List (Int × Int)))]) (rd_of (keep_clear (s := s) (pk := [2]) h0 rfl (map_agg (maps_cons rfl (maps_cons (Enc.map_enc _ (g_1.2 : List (Int × Int))) maps_nil)))) rfl) (gone_clear (s := s) (pk := [2]) (t := 2) rfl) rfl ?_
  refine g_v0 (.int .i64 0) rfl rfl ?_
  refine g_v0 (.bool false) rfl rfl ?_
  refine g_end ?_
  refine e_end ?_
  refine renew [(1, (Enc.enc (order_2 : List Int))), (2, (.ref (.bx 2) 0 [] (.agg [(.int .i64 g_1.1), (Enc.enc (g_1.2 : List (Int × Int)))]))), (4, (.int .i64 0)), (5, (.bool false))] ⟨(keep_clear (s := s) (pk := [2]) h1 rfl (Enc.map_enc _ (order_2 : List Int))), rfl, rfl, rfl⟩ ?_
  rintro s ⟨h1, h2, h4, h5⟩
  refine .nsq ?_
  refine .seq ?_
  refine .seq ?_
  refine run_reg ?_
  refine e_end ?_
  refine g_v1 (t := 2) (u := (.ref (.bx 2) 0 [] (.agg [(.int .i64 g_1.1), (Enc.enc (g_1.2 : List (Int × Int)))]))) (.agg [(.int .i64 g_1.1), (Enc.enc (g_1.2 : List (Int × Int)))]) h2 rfl rfl ?_
  refine g_v1 (t := 1) (u := (Enc.enc (order_2 : List Int))) (Enc.enc (order_2 : List Int)) h1 rfl rfl ?_
  obtain ⟨r_3, E_r_3, h⟩ := bind_some h
  refine g_call (m := 0) (al := false) (r := (Enc.enc (r_3 : Bool))) [Enc.enc (g_1 : (Int × (List (Int × Int)))), Enc.enc (order_2 : (List Int))] (ta_cons (v := (.agg [(.int .i64 g_1.1), (Enc.enc (g_1.2 : List (Int × Int)))])) rfl rfl (Enc.erase_enc (g_1 : (Int × (List (Int × Int))))) (ta_cons (v := (Enc.enc (order_2 : List Int))) rfl rfl (Enc.erase_enc (order_2 : (List Int))) ta_nil)) (H.c94 _ _ _ E_r_3) H.g94 rfl rfl rfl rfl ?_
  refine g_v1 (t := 8) (u := (.bool r_3)) (.bool (!r_3)) rfl rfl rfl ?_
  refine g_end ?_
  refine e_end ?_
  refine renew [(1, (Enc.enc (order_2 : List Int))), (2, (.ref (.bx 2) 0 [] (.agg [(.int .i64 g_1.1), (Enc.enc (g_1.2 : List (Int × Int)))]))), (4, (.int .i64 0)), (5, (.bool false)), (9, (.bool (!r_3)))] ⟨h1, h2, h4, h5, rfl⟩ ?_
  rintro s ⟨h1, h2, h4, h5, h9⟩
  refine .nsq ?_
  refine run_cond (t := (!r_3)) h9 h (fun h => ?_) (fun h => ?_)
  · refine .seq ?_
    refine run_reg ?_
    refine e_end ?_
    refine g_v0 (.int .i64 0) rfl rfl ?_
    refine g_v0 (.bool false) rfl rfl ?_
    refine g_end ?_
    refine e_end ?_
    refine renew [(1, (Enc.enc (order_2 : List Int))), (2, (.ref (.bx 2) 0 [] (.agg [(.int .i64 g_1.1), (Enc.enc (g_1.2 : List (Int × Int)))]))), (4, (.int .i64 0)), (5, (.bool false))] ⟨h1, h2, rfl, rfl⟩ ?_
    rintro s ⟨h1, h2, h4, h5⟩
    refine .nsq ?_
    refine .ret ?_
    have hr := Option.some.inj h
    subst hr
    exact rrB (res_tmp h4) (res_tmp h5) rfl
  · refine .skip ?_
    refine .nsq ?_
    refine .seq ?_
    refine run_reg ?_
    refine e_end ?_
    refine g_v1 (t := 2) (u := (.ref (.bx 2) 0 [] (.agg [(.int .i64 g_1.1), (Enc.enc (g_1.2 : List (Int × Int)))]))) (.agg [(.int .i64 g_1.1), (Enc.enc (g_1.2 : List (Int × Int)))]) h2 rfl rfl ?_
    refine g_v1 (t := 1) (u := (Enc.enc (order_2 : List Int))) (Enc.enc (order_2 : List Int)) h1 rfl rfl ?_
    obtain ⟨r_4, E_r_4, h⟩ := bind_some h
    refine g_call (m := 0) (al := false) (r := (Enc.enc (r_4 : Int))) [Enc.enc (g_1 : (Int × (List (Int × Int)))), Enc.enc (order_2 : (List Int))] (ta_cons (v := (.agg [(.int .i64 g_1.1), (Enc.enc (g_1.2 : List (Int × Int)))])) rfl rfl (Enc.erase_enc (g_1 : (Int × (List (Int × Int))))) (ta_cons (v := (Enc.enc (order_2 : List Int))) rfl rfl (Enc.erase_enc (order_2 : (List Int))) ta_nil)) (H.c95 _ _ _ E_r_4) H.g95 rfl rfl rfl rfl ?_
    refine g_v1 (t := 12) (u := (.int .i64 r_4)) (.int .i64 r_4) rfl rfl rfl ?_
    refine g_v0 (.bool true) rfl rfl ?_
    refine g_end ?_
    refine e_end ?_
    refine renew [(4, (.int .i64 r_4)), (5, (.bool true))] ⟨rfl, rfl⟩ ?_
    rintro s ⟨h4, h5⟩
    refine .nsq ?_
    refine .ret ?_
    have hr := Option.some.inj h
    subst hr
    exact rrB (res_tmp h4) (res_tmp h5) rfl
end
def e42 (F : Nat) : Ent := ⟨42, da (fun (x : ((Int × (List (Int × Int))) × (List Int) × Unit)) => s_EliminationWidth F x.1 x.2.1) (fun (r : (Int × Bool)) => (.tup [Enc.enc (r.1 : Int), Enc.enc (r.2 : Bool)])), 0, false, selF []⟩
theorem p42 {F : Nat} {x0 : (Int × (List (Int × Int)))} {x1 : (List Int)} {r : (Int × Bool)} (h : s_EliminationWidth F x0 x1 = some r) : (e42 F).den [Enc.enc x0, Enc.enc x1] = some (.tup [Enc.enc (r.1 : Int), Enc.enc (r.2 : Bool)]) := da_put (f := fun (x : ((Int × (List (Int × Int))) × (List Int) × Unit)) => s_EliminationWidth F x.1 x.2.1) (t := fun (r : (Int × Bool)) => (.tup [Enc.enc (r.1 : Int), Enc.enc (r.2 : Bool)])) (x0, x1, ()) h
theorem o42 {D : Den} {σ : Sig} {F : Nat} (hF : Fits2 Try.prog D σ) (H : H42 D σ F) : (e42 F).Ok Try.prog := by
  refine ok_of (f := 42) (show unk 42 = 42 from rfl) (fun args r h => ?_) ⟨Try.f42, Try.func42, rfl, rfl⟩
  obtain ⟨⟨x0, x1, _⟩, y, rfl, hy, rfl⟩ := da_open h
  exact contract_run hF (by kernel_rfl) Try.func42 rfl c42 (show 2 ≤ Try.f42.ntmps by decide) (t42 H x0 x1 _ ⟨rfl, rfl⟩ hy)
/- loop.example/g01109/impl.within -/
def A66_1 : AC := (AC.seq (AC.reg [] [(I.mk (some 7) none false (X.v (A.mov (O.t 0)))), (I.mk (some 8) none false (X.v (A.mov (O.t 1)))), (I.mk (some 9) none false (X.v (A.bin BinOp.geq (O.t 7) (O.t 8)))), (I.mk (some 10) none false (X.v (A.mov (O.t 9)))), (I.mk (some 11) (some (10, true)) false (X.v (A.mov (O.t 0)))), (I.mk (some 12) (some (10, true)) false (X.v (A.mov (O.t 2)))), (I.mk (some 13) (some (10, true)) false (X.v (A.bin BinOp.leq (O.t 11) (O.t 12)))), (I.mk (some 14) none false (X.v (A.pick (O.t 10) (O.t 13) (O.k (V.bool false))))), (I.mk (some 6) none false (X.v (A.mov (O.t 14))))] []) AC.ret)
def A66 : AC := (AC.seq (AC.reg [] [(I.mk (some 6) none false (X.v (A.mov (O.k (V.bool false)))))] []) A66_1)
def an66 : List An := []
theorem c66 : cC Try.prog Try.f66.ntmps an66 (Try.f66.body.getD .skip) = some A66 := by kernel_rfl
structure H66 (D : Den) (σ : Sig) (F : Nat) : Prop where
  mk ::
abbrev R66 (r : Bool) : (Nat → V) → Prop := RR Try.prog [.tmp 6] 0 false (Enc.enc (r : Bool))
section
variable {D : Den} {σ : Sig} {F : Nat} {r : Bool}
def i_within (F : Nat) (n_1 : Int) (low_2 : Int) (high_3 : Int) : Option Bool :=
  bif decide (n_1 ≥ low_2) then
    some (decide (n_1 ≤ high_3))
  else
    some false
theorem t66 (H : H66 D σ F) (n_1 : Int) (low_2 : Int) (high_3 : Int) (s : Nat → V) (hs : Facts [(0, (.int .i64 n_1)), (1, (.int .i64 low_2)), (2, (.int .i64 high_3))] s) (h : i_within F n_1 low_2 high_3 = some r) : Run D σ (R66 r) (.run A66 []) s := by
  unfold i_within at h
  obtain ⟨h0, h1, h2⟩ := hs
  refine .seq ?_
  refine run_reg ?_
  refine e_end ?_
  refine g_v0 (.bool false) rfl rfl ?_
  refine g_end ?_
  refine e_end ?_
  refine renew [(0, (.int .i64 n_1)), (1, (.int .i64 low_2)), (2, (.int .i64 high_3)), (6, (.bool false))] ⟨h0, h1, h2, rfl⟩ ?_
  rintro s ⟨h0, h1, h2, h6⟩
  refine .nsq ?_
  refine .seq ?_
  refine run_reg ?_
  refine e_end ?_
  refine g_v1 (t := 0) (u := (.int .i64 n_1)) (.int .i64 n_1) h0 rfl rfl ?_
  refine g_v1 (t := 1) (u := (.int .i64 low_2)) (.int .i64 low_2) h1 rfl rfl ?_
  refine g_v2 (t1 := 7) (t2 := 8) (u1 := (.int .i64 n_1)) (u2 := (.int .i64 low_2)) (.bool (decide (n_1 ≥ low_2))) rfl rfl rfl rfl ?_
  refine g_v1 (t := 9) (u := (.bool (decide (n_1 ≥ low_2)))) (.bool (decide (n_1 ≥ low_2))) rfl rfl rfl ?_
  refine split_on (c := decide (n_1 ≥ low_2)) h (fun hg4 h => ?_) (fun hg4 h => ?_)
  · refine g_yes (Eq.trans (b := .bool (decide (n_1 ≥ low_2))) rfl (congrArg V.bool hg4)) (g_v1 (t := 0) (u := (.int .i64 n_1)) (.int .i64 n_1) h0 rfl rfl ?_)
    refine g_yes (Eq.trans (b := .bool (decide (n_1 ≥ low_2))) rfl (congrArg V.bool hg4)) (g_v1 (t := 2) (u := (.int .i64 high_3)) (.int .i64 high_3) h2 rfl rfl ?_)
    refine g_yes (Eq.trans (b := .bool (decide (n_1 ≥ low_2))) rfl (congrArg V.bool hg4)) (g_v2 (t1 := 11) (t2 := 12) (u1 := (.int .i64 n_1)) (u2 := (.int .i64 high_3)) (.bool (decide (n_1 ≤ high_3))) rfl rfl rfl rfl ?_)
    refine g_v2 (t1 := 10) (t2 := 13) (u1 := (.bool true)) (u2 := (.bool (decide (n_1 ≤ high_3)))) (.bool (decide (n_1 ≤ high_3))) (Eq.trans (b := .bool (decide (n_1 ≥ low_2))) rfl (congrArg V.bool hg4)) rfl rfl rfl ?_
    refine g_v1 (t := 14) (u := (.bool (decide (n_1 ≤ high_3)))) (.bool (decide (n_1 ≤ high_3))) rfl rfl rfl ?_
    refine g_end ?_
    refine e_end ?_
    refine renew [(6, (.bool (decide (n_1 ≤ high_3))))] rfl ?_
    rintro s h6
    refine .nsq ?_
    refine .ret ?_
    have hr := Option.some.inj h
    subst hr
    exact rrA (res_tmp h6) rfl
  · refine g_no (Eq.trans (b := .bool (decide (n_1 ≥ low_2))) rfl (congrArg V.bool hg4)) ?_
    refine g_no (Eq.trans (b := .bool (decide (n_1 ≥ low_2))) rfl (congrArg V.bool hg4)) ?_
    refine g_no (Eq.trans (b := .bool (decide (n_1 ≥ low_2))) rfl (congrArg V.bool hg4)) ?_
    refine g_v2 (t1 := 10) (t2 := 13) (u1 := (.bool false)) (u2 := (.tup [])) (.bool false) (Eq.trans (b := .bool (decide (n_1 ≥ low_2))) rfl (congrArg V.bool hg4)) rfl rfl rfl ?_
    refine g_v1 (t := 14) (u := (.bool false)) (.bool false) rfl rfl rfl ?_
    refine g_end ?_
    refine e_end ?_
    refine renew [(6, (.bool false))] rfl ?_
    rintro s h6
    refine .nsq ?_
    refine .ret ?_
    have hr := Option.some.inj h
    subst hr
    exact rrA (res_tmp h6) rfl
end
def e66 (F : Nat) : Ent := ⟨66, da (fun (x : (Int × Int × Int × Unit)) => i_within F x.1 x.2.1 x.2.2.1) (fun (r : Bool) => (Enc.enc (r : Bool))), 0, false, selF []⟩
theorem p66 {F : Nat} {x0 : Int} {x1 : Int} {x2 : Int} {r : Bool} (h : i_within F x0 x1 x2 = some r) : (e66 F).den [Enc.enc x0, Enc.enc x1, Enc.enc x2] = some (Enc.enc (r : Bool)) := da_put (f := fun (x : (Int × Int × Int × Unit)) => i_within F x.1 x.2.1 x.2.2.1) (t := fun (r : Bool) => (Enc.enc (r : Bool))) (x0, x1, x2, ()) h
theorem o66 {D : Den} {σ : Sig} {F : Nat} (hF : Fits2 Try.prog D σ) (H : H66 D σ F) : (e66 F).Ok Try.prog := by
  refine ok_of (f := 66) (show unk 66 = 66 from rfl) (fun args r h => ?_) ⟨Try.f66, Try.func66, rfl, rfl⟩
  obtain ⟨⟨x0, x1, x2, _⟩, y, rfl, hy, rfl⟩ := da_open h
  exact contract_run hF (by kernel_rfl) Try.func66 rfl c66 (show 3 ≤ Try.f66.ntmps by decide) (t66 H x0 x1 x2 _ ⟨rfl, rfl, rfl⟩ hy)
/- cmp.isNaN[int] -/
def A141_1 : AC := (AC.seq (AC.reg [] [(I.mk (some 3) none false (X.v (A.mov (O.t 0)))), (I.mk (some 4) none false (X.v (A.mov (O.t 0)))), (I.mk (some 5) none false (X.v (A.bin BinOp.neq (O.t 3) (O.t 4)))), (I.mk (some 2) none false (X.v (A.mov (O.t 5))))] []) AC.ret)
def A141 : AC := (AC.seq (AC.reg [] [(I.mk (some 2) none false (X.v (A.mov (O.k (V.bool false)))))] []) A141_1)
def an141 : List An := []
theorem c141 : cC Try.prog Try.f141.ntmps an141 (Try.f141.body.getD .skip) = some A141 := by kernel_rfl
structure H141 (D : Den) (σ : Sig) (F : Nat) : Prop where
  mk ::
abbrev R141 (r : Bool) : (Nat → V) → Prop := RR Try.prog [.tmp 2] 0 false (Enc.enc (r : Bool))
section
variable {D : Den} {σ : Sig} {F : Nat} {r : Bool}
def cmp_isNaN_int (F : Nat) (x_1 : Int) : Option Bool :=
  some (x_1 != x_1)
theorem t141 (H : H141 D σ F) (x_1 : Int) (s : Nat → V) (hs : Facts [(0, (.int .i64 x_1))] s) (h : cmp_isNaN_int F x_1 = some r) : Run D σ (R141 r) (.run A141 []) s := by
  unfold cmp_isNaN_int at h
  have h0 := hs
  refine .seq ?_
  refine run_reg ?_
  refine e_end ?_
  refine g_v0 (.bool false) rfl rfl ?_
  refine g_end ?_
  refine e_end ?_
  refine renew [(0, (.int .i64 x_1)), (2, (.bool false))] ⟨h0, rfl⟩ ?_
  rintro s ⟨h0, h2⟩
  refine .nsq ?_
  refine .seq ?_
  refine run_reg ?_
  refine e_end ?_
  refine g_v1 (t := 0) (u := (.int .i64 x_1)) (.int .i64 x_1) h0 rfl rfl ?_
  refine g_v1 (t := 0) (u := (.int .i64 x_1)) (.int .i64 x_1) h0 rfl rfl ?_
  refine g_v2 (t1 := 3) (t2 := 4) (u1 := (.int .i64 x_1)) (u2 := (.int .i64 x_1)) (.bool (x_1 != x_1)) rfl rfl rfl rfl ?_
  refine g_v1 (t := 5) (u := (.bool (x_1 != x_1))) (.bool (x_1 != x_1)) rfl rfl rfl ?_
  refine g_end ?_
  refine e_end ?_
  refine renew [(2, (.bool (x_1 != x_1)))] rfl ?_
  rintro s h2
  refine .nsq ?_
  refine .ret ?_
  have hr := Option.some.inj h
  subst hr
  exact rrA (res_tmp h2) rfl
end
def e141 (F : Nat) : Ent := ⟨141, da (fun (x : (Int × Unit)) => cmp_isNaN_int F x.1) (fun (r : Bool) => (Enc.enc (r : Bool))), 0, false, selF []⟩
theorem p141 {F : Nat} {x0 : Int} {r : Bool} (h : cmp_isNaN_int F x0 = some r) : (e141 F).den [Enc.enc x0] = some (Enc.enc (r : Bool)) := da_put (f := fun (x : (Int × Unit)) => cmp_isNaN_int F x.1) (t := fun (r : Bool) => (Enc.enc (r : Bool))) (x0, ()) h
theorem o141 {D : Den} {σ : Sig} {F : Nat} (hF : Fits2 Try.prog D σ) (H : H141 D σ F) : (e141 F).Ok Try.prog := by
  refine ok_of (f := 141) (show unk 141 = 141 from rfl) (fun args r h => ?_) ⟨Try.f141, Try.func141, rfl, rfl⟩
  obtain ⟨⟨x0, _⟩, y, rfl, hy, rfl⟩ := da_open h
  exact contract_run hF (by kernel_rfl) Try.func141 rfl c141 (show 1 ≤ Try.f141.ntmps by decide) (t141 H x0 _ rfl hy)
/- cmp.Compare[int] -/
def A131_5 : AC := (AC.cond (O.t 12) (AC.seq (AC.reg [] [(I.mk (some 4) none false (X.v (A.mov (O.k (V.int IntKind.i64 (Int.ofNat 0))))))] []) AC.ret) AC.skip)
def A131_6 : AC := (AC.seq (AC.reg [] [(I.mk (some 4) none false (X.v (A.mov (O.k (V.int IntKind.i64 (Int.negSucc 0))))))] []) AC.ret)
def A131_4 : AC := (AC.cond (O.t 11) (AC.seq (AC.seq (AC.reg [] [(I.mk (some 12) none false (X.v (A.mov (O.t 6))))] []) A131_5) A131_6) AC.skip)
def A131_8 : AC := (AC.cond (O.t 13) (AC.seq (AC.reg [] [(I.mk (some 4) none false (X.v (A.mov (O.k (V.int IntKind.i64 (Int.ofNat 1))))))] []) AC.ret) AC.skip)
def A131_10 : AC := (AC.cond (O.t 16) (AC.seq (AC.reg [] [(I.mk (some 4) none false (X.v (A.mov (O.k (V.int IntKind.i64 (Int.negSucc 0))))))] []) AC.ret) AC.skip)
def A131_12 : AC := (AC.cond (O.t 19) (AC.seq (AC.reg [] [(I.mk (some 4) none false (X.v (A.mov (O.k (V.int IntKind.i64 (Int.ofNat 1))))))] []) AC.ret) AC.skip)
def A131_13 : AC := (AC.seq (AC.reg [] [(I.mk (some 4) none false (X.v (A.mov (O.k (V.int IntKind.i64 (Int.ofNat 0))))))] []) AC.ret)
def A131_11 : AC := (AC.seq (AC.seq (AC.reg [] [(I.mk (some 17) none false (X.v (A.mov (O.t 0)))), (I.mk (some 18) none false (X.v (A.mov (O.t 1)))), (I.mk (some 19) none false (X.v (A.bin BinOp.gtr (O.t 17) (O.t 18))))] []) A131_12) A131_13)
def A131_9 : AC := (AC.seq (AC.seq (AC.reg [] [(I.mk (some 14) none false (X.v (A.mov (O.t 0)))), (I.mk (some 15) none false (X.v (A.mov (O.t 1)))), (I.mk (some 16) none false (X.v (A.bin BinOp.lss (O.t 14) (O.t 15))))] []) A131_10) A131_11)
def A131_7 : AC := (AC.seq (AC.seq (AC.reg [] [(I.mk (some 13) none false (X.v (A.mov (O.t 6))))] []) A131_8) A131_9)
def A131_3 : AC := (AC.seq (AC.seq (AC.reg [] [(I.mk (some 11) none false (X.v (A.mov (O.t 5))))] []) A131_4) A131_7)
def A131_2 : AC := (AC.seq (AC.reg [] [(I.mk (some 9) none false (X.v (A.mov (O.t 1)))), (I.mk (some 10) none false (X.call (O.k (V.fn 141 [] [])) [(O.t 9)])), (I.mk (some 6) none false (X.v (A.mov (O.t 10))))] []) A131_3)
def A131_1 : AC := (AC.seq (AC.reg [] [(I.mk (some 7) none false (X.v (A.mov (O.t 0)))), (I.mk (some 8) none false (X.call (O.k (V.fn 141 [] [])) [(O.t 7)])), (I.mk (some 5) none false (X.v (A.mov (O.t 8))))] []) A131_2)
def A131 : AC := (AC.seq (AC.reg [] [(I.mk (some 4) none false (X.v (A.mov (O.k (V.int IntKind.i64 (Int.ofNat 0))))))] []) A131_1)
def an131 : List An := []
theorem c131 : cC Try.prog Try.f131.ntmps an131 (Try.f131.body.getD .skip) = some A131 := by kernel_rfl
structure H131 (D : Den) (σ : Sig) (F : Nat) : Prop where
  c141 : ∀ (x0 : Int) r, cmp_isNaN_int F x0 = some r → D 141 [Enc.enc x0] = some (Enc.enc (r : Bool))
  g141 : σ 141 = some (0, false)
abbrev R131 (r : Int) : (Nat → V) → Prop := RR Try.prog [.tmp 4] 0 false (Enc.enc (r : Int))
section
variable {D : Den} {σ : Sig} {F : Nat} {r : Int}
def cmp_Compare_int (F : Nat) (x_1 : Int) (y_2 : Int) : Option Int :=
  (cmp_isNaN_int F x_1).bind fun r_3 =>
  (cmp_isNaN_int F y_2).bind fun r_4 =>
  bif r_3 then
    bif r_4 then
      some 0
    else
      some (-1)
  else
    bif r_4 then
      some 1
    else
      bif decide (x_1 < y_2) then
        some (-1)
      else
        bif decide (x_1 > y_2) then
          some 1
        else
          some 0
theorem t131 (H : H131 D σ F) (x_1 : Int) (y_2 : Int) (s : Nat → V) (hs : Facts [(0, (.int .i64 x_1)), (1, (.int .i64 y_2))] s) (h : cmp_Compare_int F x_1 y_2 = some r) : Run D σ (R131 r) (.run A131 []) s := by
  unfold cmp_Compare_int at h
  obtain ⟨h0, h1⟩ := hs
  refine .seq ?_
  refine run_reg ?_
  refine e_end ?_
  refine g_v0 (.int .i64 0) rfl rfl ?_
  refine g_end ?_
  refine e_end ?_
  refine renew [(0, (.int .i64 x_1)), (1, (.int .i64 y_2)), (4, (.int .i64 0))] ⟨h0, h1, rfl⟩ ?_
  rintro s ⟨h0, h1, h4⟩
  refine .nsq ?_
  refine .seq ?_
  refine run_reg ?_
  refine e_end ?_
  refine g_v1 (t := 0) (u := (.int .i64 x_1)) (.int .i64 x_1) h0 rfl rfl ?_
  obtain ⟨r_3, E_r_3, h⟩ := bind_some h
  refine g_call (m := 0) (al := false) (r := (Enc.enc (r_3 : Bool))) [Enc.enc (x_1 : Int)] (ta_cons (v := (.int .i64 x_1)) rfl rfl rfl ta_nil) (H.c141 _ _ E_r_3) H.g141 rfl rfl rfl rfl ?_
  refine g_v1 (t := 8) (u := (.bool r_3)) (.bool r_3) rfl rfl rfl ?_
  refine g_end ?_
  refine e_end ?_
  refine renew [(0, (.int .i64 x_1)), (1, (.int .i64 y_2)), (4, (.int .i64 0)), (5, (.bool r_3))] ⟨h0, h1, h4, rfl⟩ ?_
  rintro s ⟨h0, h1, h4, h5⟩
  refine .nsq ?_
  refine .seq ?_
  refine run_reg ?_
  refine e_end ?_
  refine g_v1 (t := 1) (u := (.int .i64 y_2)) (.int .i64 y_2) h1 rfl rfl ?_
  obtain ⟨r_4, E_r_4, h⟩ := bind_some h
  refine g_call (m := 0) (al := false) (r := (Enc.enc (r_4 : Bool))) [Enc.enc (y_2 : Int)] (ta_cons (v := (.int .i64 y_2)) rfl rfl rfl ta_nil) (H.c141 _ _ E_r_4) H.g141 rfl rfl rfl rfl ?_
  refine g_v1 (t := 10) (u := (.bool r_4)) (.bool r_4) rfl rfl rfl ?_
  refine g_end ?_
  refine e_end ?_
  refine renew [(0, (.int .i64 x_1)), (1, (.int .i64 y_2)), (4, (.int .i64 0)), (5, (.bool r_3)), (6, (.bool r_4))] ⟨h0, h1, h4, h5, rfl⟩ ?_
  rintro s ⟨h0, h1, h4, h5, h6⟩
  refine .nsq ?_
  refine .seq ?_
  refine .seq ?_
  refine run_reg ?_
  refine e_end ?_
  refine g_v1 (t := 5) (u := (.bool r_3)) (.bool r_3) h5 rfl rfl ?_
  refine g_end ?_
  refine e_end ?_
  refine renew [(0, (.int .i64 x_1)), (1, (.int .i64 y_2)), (4, (.int .i64 0)), (6, (.bool r_4)), (11, (.bool r_3))] ⟨h0, h1, h4, h6, rfl⟩ ?_
  rintro s ⟨h0, h1, h4, h6, h11⟩
  refine .nsq ?_
  refine run_cond (t := r_3) h11 h (fun h => ?_) (fun h => ?_)
  · refine .seq ?_
    refine .seq ?_
    refine run_reg ?_
    refine e_end ?_
    refine g_v1 (t := 6) (u := (.bool r_4)) (.bool r_4) h6 rfl rfl ?_
    refine g_end ?_
    refine e_end ?_
    refine renew [(0, (.int .i64 x_1)), (1, (.int .i64 y_2)), (4, (.int .i64 0)), (6, (.bool r_4)), (12, (.bool r_4))] ⟨h0, h1, h4, h6, rfl⟩ ?_
    rintro s ⟨h0, h1, h4, h6, h12⟩
    refine .nsq ?_
    refine run_cond (t := r_4) h12 h (fun h => ?_) (fun h => ?_)
    · refine .seq ?_
      refine run_reg ?_
      refine e_end ?_
      refine g_v0 (.int .i64 0) rfl rfl ?_
      refine g_end ?_
      refine e_end ?_
      refine renew [(0, (.int .i64 x_1)), (1, (.int .i64 y_2)), (4, (.int .i64 0)), (6, (.bool r_4))] ⟨h0, h1, rfl, h6⟩ ?_
      rintro s ⟨h0, h1, h4, h6⟩
      refine .nsq ?_
      refine .ret ?_
      have hr := Option.some.inj h
      subst hr
      exact rrA (res_tmp h4) rfl
    · refine .skip ?_
      refine .nsq ?_
      refine .seq ?_
      refine run_reg ?_
      refine e_end ?_
      refine g_v0 (.int .i64 (-1)) rfl rfl ?_
      refine g_end ?_
      refine e_end ?_
      refine renew [(0, (.int .i64 x_1)), (1, (.int .i64 y_2)), (4, (.int .i64 (-1))), (6, (.bool r_4))] ⟨h0, h1, rfl, h6⟩ ?_
      rintro s ⟨h0, h1, h4, h6⟩
      refine .nsq ?_
      refine .ret ?_
      have hr := Option.some.inj h
      subst hr
      exact rrA (res_tmp h4) rfl
  · refine .skip ?_
    refine .nsq ?_
    refine .seq ?_
    refine .seq ?_
    refine run_reg ?_
    refine e_end ?_
    refine g_v1 (t := 6) (u := (.bool r_4)) (.bool r_4) h6 rfl rfl ?_
    refine g_end ?_
    refine e_end ?_
    refine renew [(0, (.int .i64 x_1)), (1, (.int .i64 y_2)), (4, (.int .i64 0)), (13, (.bool r_4))] ⟨h0, h1, h4, rfl⟩ ?_
    rintro s ⟨h0, h1, h4, h13⟩
    refine .nsq ?_
    refine run_cond (t := r_4) h13 h (fun h => ?_) (fun h => ?_)
    · refine .seq ?_
      refine run_reg ?_
      refine e_end ?_
      refine g_v0 (.int .i64 1) rfl rfl ?_
      refine g_end ?_
      refine e_end ?_
      refine renew [(0, (.int .i64 x_1)), (1, (.int .i64 y_2)), (4, (.int .i64 1))] ⟨h0, h1, rfl⟩ ?_
      rintro s ⟨h0, h1, h4⟩
      refine .nsq ?_
      refine .ret ?_
      have hr := Option.some.inj h
      subst hr
      exact rrA (res_tmp h4) rfl
    · refine .skip ?_
      refine .nsq ?_
      refine .seq ?_
      refine .seq ?_
      refine run_reg ?_
      refine e_end ?_
      refine g_v1 (t := 0) (u := (.int .i64 x_1)) (.int .i64 x_1) h0 rfl rfl ?_
      refine g_v1 (t := 1) (u := (.int .i64 y_2)) (.int .i64 y_2) h1 rfl rfl ?_
      refine g_v2 (t1 := 14) (t2 := 15) (u1 := (.int .i64 x_1)) (u2 := (.int .i64 y_2)) (.bool (decide (x_1 < y_2))) rfl rfl rfl rfl ?_
      refine g_end ?_
      refine e_end ?_
      refine renew [(0, (.int .i64 x_1)), (1, (.int .i64 y_2)), (4, (.int .i64 0)), (16, (.bool (decide (x_1 < y_2))))] ⟨h0, h1, h4, rfl⟩ ?_
      rintro s ⟨h0, h1, h4, h16⟩
      refine .nsq ?_
      refine run_cond (t := decide (x_1 < y_2)) h16 h (fun h => ?_) (fun h => ?_)
      · refine .seq ?_
        refine run_reg ?_
        refine e_end ?_
        refine g_v0 (.int .i64 (-1)) rfl rfl ?_
        refine g_end ?_
        refine e_end ?_
        refine renew [(0, (.int .i64 x_1)), (1, (.int .i64 y_2)), (4, (.int .i64 (-1)))] ⟨h0, h1, rfl⟩ ?_
        rintro s ⟨h0, h1, h4⟩
        refine .nsq ?_
        refine .ret ?_
        have hr := Option.some.inj h
        subst hr
        exact rrA (res_tmp h4) rfl
      · refine .skip ?_
        refine .nsq ?_
        refine .seq ?_
        refine .seq ?_
        refine run_reg ?_
        refine e_end ?_
        refine g_v1 (t := 0) (u := (.int .i64 x_1)) (.int .i64 x_1) h0 rfl rfl ?_
        refine g_v1 (t := 1) (u := (.int .i64 y_2)) (.int .i64 y_2) h1 rfl rfl ?_
        refine g_v2 (t1 := 17) (t2 := 18) (u1 := (.int .i64 x_1)) (u2 := (.int .i64 y_2)) (.bool (decide (x_1 > y_2))) rfl rfl rfl rfl ?_
        refine g_end ?_
        refine e_end ?_
        refine renew [(4, (.int .i64 0)), (19, (.bool (decide (x_1 > y_2))))] ⟨h4, rfl⟩ ?_
        rintro s ⟨h4, h19⟩
        refine .nsq ?_
        refine run_cond (t := decide (x_1 > y_2)) h19 h (fun h => ?_) (fun h => ?_)
        · refine .seq ?_
          refine run_reg ?_
          refine e_end ?_
          refine g_v0 (.int .i64 1) rfl rfl ?_
          refine g_end ?_
          refine e_end ?_
          refine renew [(4, (.int .i64 1))] rfl ?_
          rintro s h4
          refine .nsq ?_
          refine .ret ?_
          have hr := Option.some.inj h
          subst hr
          exact rrA (res_tmp h4) rfl
        · refine .skip ?_
          refine .nsq ?_
          refine .seq ?_
          refine run_reg ?_
          refine e_end ?_
          refine g_v0 (.int .i64 0) rfl rfl ?_
          refine g_end ?_
          refine e_end ?_
          refine renew [(4, (.int .i64 0))] rfl ?_
          rintro s h4
          refine .nsq ?_
          refine .ret ?_
          have hr := Option.some.inj h
          subst hr
          exact rrA (res_tmp h4) rfl
end
def e131 (F : Nat) : Ent := ⟨131, da (fun (x : (Int × Int × Unit)) => cmp_Compare_int F x.1 x.2.1) (fun (r : Int) => (Enc.enc (r : Int))), 0, false, selF []⟩
theorem p131 {F : Nat} {x0 : Int} {x1 : Int} {r : Int} (h : cmp_Compare_int F x0 x1 = some r) : (e131 F).den [Enc.enc x0, Enc.enc x1] = some (Enc.enc (r : Int)) := da_put (f := fun (x : (Int × Int × Unit)) => cmp_Compare_int F x.1 x.2.1) (t := fun (r : Int) => (Enc.enc (r : Int))) (x0, x1, ()) h
theorem o131 {D : Den} {σ : Sig} {F : Nat} (hF : Fits2 Try.prog D σ) (H : H131 D σ F) : (e131 F).Ok Try.prog := by
  refine ok_of (f := 131) (show unk 131 = 131 from rfl) (fun args r h => ?_) ⟨Try.f131, Try.func131, rfl, rfl⟩
  obtain ⟨⟨x0, x1, _⟩, y, rfl, hy, rfl⟩ := da_open h
  exact contract_run hF (by kernel_rfl) Try.func131 rfl c131 (show 2 ≤ Try.f131.ntmps by decide) (t131 H x0 x1 _ ⟨rfl, rfl⟩ hy)
/- slices.Compare[[]int,int] -/
def A100_5 : AC := (AC.cond (O.t 19) (AC.seq (AC.reg [] [(I.mk (some 4) none false (X.v (A.mov (O.k (V.int IntKind.i64 (Int.ofNat 1))))))] []) AC.ret) AC.skip)
def A100_9 : AC := (AC.cond (O.t 28) (AC.seq (AC.reg [] [(I.mk (some 29) none false (X.v (A.mov (O.t 8)))), (I.mk (some 4) none false (X.v (A.mov (O.t 29))))] []) AC.ret) AC.skip)
def A100_8 : AC := (AC.seq (AC.reg [] [(I.mk (some 27) none false (X.v (A.mov (O.t 8)))), (I.mk (some 28) none false (X.v (A.bin BinOp.neq (O.t 27) (O.k (V.int IntKind.i64 (Int.ofNat 0))))))] []) A100_9)
def A100_7 : AC := (AC.seq (AC.reg [] [(I.mk (some 24) none false (X.v (A.mov (O.t 6)))), (I.mk (some 25) none false (X.v (A.mov (O.t 7)))), (I.mk (some 26) none false (X.call (O.k (V.fn 131 [] [])) [(O.t 24), (O.t 25)])), (I.mk (some 8) none false (X.v (A.mov (O.t 26))))] []) A100_8)
def A100_6 : AC := (AC.seq (AC.reg [] [(I.mk (some 20) none false (X.v (A.mov (O.t 1)))), (I.mk (some 21) none false (X.v (A.mov (O.t 5)))), (I.mk (some 22) none false (X.v (A.idx (O.t 20) (O.t 21) 1))), (I.mk (some 23) none false (X.v (A.load Sh.s (O.t 22)))), (I.mk (some 7) none false (X.v (A.mov (O.t 23))))] []) A100_7)
def A100_4 : AC := (AC.seq (AC.seq (AC.reg [] [(I.mk (some 16) none false (X.v (A.mov (O.t 5)))), (I.mk (some 17) none false (X.v (A.mov (O.t 1)))), (I.mk (some 18) none false (X.v (A.len (O.t 17)))), (I.mk (some 19) none false (X.v (A.bin BinOp.geq (O.t 16) (O.t 18))))] []) A100_5) A100_6)
def A100_10 : AC := (AC.reg [] [(I.mk (some 30) none false (X.v (A.bin BinOp.add (O.t 11) (O.k (V.int IntKind.i64 (Int.ofNat 1)))))), (I.mk (some 11) none false (X.v (A.mov (O.t 30))))] [])
def A100_3 : AC := (AC.seq (AC.block 1 (AC.seq (AC.reg [] [(I.mk (some 13) none false (X.v (A.mov (O.t 11)))), (I.mk (some 14) none false (X.v (A.idx (O.t 9) (O.t 11) 1))), (I.mk (some 15) none false (X.v (A.load Sh.s (O.t 14)))), (I.mk (some 5) none false (X.v (A.mov (O.t 13)))), (I.mk (some 6) none false (X.v (A.mov (O.t 15))))] []) A100_4)) A100_10)
def A100_2 : AC := (AC.seq (AC.cond (O.t 12) AC.skip (AC.exit 0)) A100_3)
def A100_1 : AC := (AC.seq (AC.reg [] [(I.mk (some 12) none false (X.v (A.bin BinOp.lss (O.t 11) (O.t 10))))] []) A100_2)
def A100_12 : AC := (AC.cond (O.t 35) (AC.seq (AC.reg [] [(I.mk (some 4) none false (X.v (A.mov (O.k (V.int IntKind.i64 (Int.negSucc 0))))))] []) AC.ret) AC.skip)
def A100_13 : AC := (AC.seq (AC.reg [] [(I.mk (some 4) none false (X.v (A.mov (O.k (V.int IntKind.i64 (Int.ofNat 0))))))] []) AC.ret)
def A100_11 : AC := (AC.seq (AC.seq (AC.reg [] [(I.mk (some 31) none false (X.v (A.mov (O.t 0)))), (I.mk (some 32) none false (X.v (A.len (O.t 31)))), (I.mk (some 33) none false (X.v (A.mov (O.t 1)))), (I.mk (some 34) none false (X.v (A.len (O.t 33)))), (I.mk (some 35) none false (X.v (A.bin BinOp.lss (O.t 32) (O.t 34))))] []) A100_12) A100_13)
def A100_15 : AC := (AC.block 0 (AC.loop A100_1))
def A100_14 : AC := (AC.seq (AC.seq (AC.reg [] [(I.mk (some 9) none false (X.v (A.mov (O.t 0)))), (I.mk (some 10) none false (X.v (A.len (O.t 9)))), (I.mk (some 11) none false (X.v (A.mov (O.k (V.int IntKind.i64 (Int.ofNat 0))))))] []) A100_15) A100_11)
def A100 : AC := (AC.seq (AC.reg [] [(I.mk (some 4) none false (X.v (A.mov (O.k (V.int IntKind.i64 (Int.ofNat 0))))))] []) A100_14)
def an100 : List An := []
theorem c100 : cC Try.prog Try.f100.ntmps an100 (Try.f100.body.getD .skip) = some A100 := by kernel_rfl
structure H100 (D : Den) (σ : Sig) (F : Nat) : Prop where
  c131 : ∀ (x0 : Int) (x1 : Int) r, cmp_Compare_int F x0 x1 = some r → D 131 [Enc.enc x0, Enc.enc x1] = some (Enc.enc (r : Int))
  g131 : σ 131 = some (0, false)
abbrev R100 (r : Int) : (Nat → V) → Prop := RR Try.prog [.tmp 4] 0 false (Enc.enc (r : Int))
section
variable {D : Den} {σ : Sig} {F : Nat} {r : Int}
def slices_Compare_l1 (F : Nat) (s1_1 : (List Int)) (s2_2 : (List Int))  : Nat → Int → Option Int
  | 0, _ => none
  | k + 1, t11_6 =>
    bif decide (t11_6 < (s1_1.length : Int)) then
      (idx s1_1 t11_6).bind fun e_10 =>
      bif decide (t11_6 ≥ (s2_2.length : Int)) then
        some 1
      else
        (idx s2_2 t11_6).bind fun e_11 =>
        (cmp_Compare_int F e_10 e_11).bind fun r_12 =>
        bif (r_12 != 0) then
          some r_12
        else
          (slices_Compare_l1 F s1_1 s2_2 k) (w64 (t11_6 + 1))
    else
      bif decide ((s1_1.length : Int) < (s2_2.length : Int)) then
        some (-1)
      else
        some 0
theorem t_f100_l1 (H : H100 D σ F) (s1_1 : (List Int)) (s2_2 : (List Int))  : ∀ (k : Nat) (t11_6 : Int) (s : Nat → V), Facts [(0, (Enc.enc (s1_1 : List Int))), (1, (Enc.enc (s2_2 : List Int))), (4, (.int .i64 0)), (9, (Enc.enc (s1_1 : List Int))), (10, (.int .i64 (s1_1.length : Int))), (11, (.int .i64 t11_6))] s → slices_Compare_l1 F s1_1 s2_2 k t11_6 = some r → Run D σ (R100 r) (.run A100_1 [.lp A100_1, .bk 0, .sq A100_11]) s := by
  intro k
  induction k with
  | zero => intro t11_6 s _ h; exact nomatch (h : (none : Option _) = some r)
  | succ k ih =>
    intro t11_6 s hs h
    rw [slices_Compare_l1] at h
    obtain ⟨h0, h1, h4, h9, h10, h11⟩ := hs
    refine .seq ?_
    refine run_reg ?_
    refine e_end ?_
    refine g_v2 (t1 := 11) (t2 := 10) (u1 := (.int .i64 t11_6)) (u2 := (.int .i64 (s1_1.length : Int))) (.bool (decide (t11_6 < (s1_1.length : Int)))) h11 h10 rfl rfl ?_
    refine g_end ?_
    refine e_end ?_
    refine renew [(0, (Enc.enc (s1_1 : List Int))), (1, (Enc.enc (s2_2 : List Int))), (4, (.int .i64 0)), (9, (Enc.enc (s1_1 : List Int))), (10, (.int .i64 (s1_1.length : Int))), (11, (.int .i64 t11_6)), (12, (.bool (decide (t11_6 < (s1_1.length : Int)))))] ⟨h0, h1, h4, h9, h10, h11, rfl⟩ ?_
    rintro s ⟨h0, h1, h4, h9, h10, h11, h12⟩
    refine .nsq ?_
    refine .seq ?_
    refine run_cond (t := decide (t11_6 < (s1_1.length : Int))) h12 h (fun h => ?_) (fun h => ?_)
    · refine .skip ?_
      refine .nsq ?_
      refine .seq ?_
      refine .block ?_
      refine .seq ?_
      refine run_reg ?_
      refine e_end ?_
      refine g_v1 (t := 11) (u := (.int .i64 t11_6)) (.int .i64 t11_6) h11 rfl rfl ?_
      obtain ⟨e_10, E_e_10, h⟩ := bind_some h
      refine g_v (.ref .sh 0 [] (.int .i64 e_10)) (ev_idx (t := .sh) (lo := 0) (xs := s1_1) h9 h11 E_e_10 rfl rfl) ?_
      refine g_v1 (t := 14) (u := (.ref .sh 0 [] (.int .i64 e_10))) (.int .i64 e_10) rfl rfl rfl ?_
      refine g_v1 (t := 13) (u := (.int .i64 t11_6)) (.int .i64 t11_6) rfl rfl rfl ?_
      refine g_v1 (t := 15) (u := (.int .i64 e_10)) (.int .i64 e_10) rfl rfl rfl ?_
      refine g_end ?_
      refine e_end ?_
      refine renew [(0, (Enc.enc (s1_1 : List Int))), (1, (Enc.enc (s2_2 : List Int))), (4, (.int .i64 0)), (5, (.int .i64 t11_6)), (6, (.int .i64 e_10)), (9, (Enc.enc (s1_1 : List Int))), (10, (.int .i64 (s1_1.length : Int))), (11, (.int .i64 t11_6))] ⟨h0, h1, h4, rfl, rfl, h9, h10, h11⟩ ?_
      rintro s ⟨h0, h1, h4, h5, h6, h9, h10, h11⟩
      refine .nsq ?_
      refine .seq ?_
      refine .seq ?_
      refine run_reg ?_
      refine e_end ?_
      refine g_v1 (t := 5) (u := (.int .i64 t11_6)) (.int .i64 t11_6) h5 rfl rfl ?_
      refine g_v1 (t := 1) (u := (Enc.enc (s2_2 : List Int))) (Enc.enc (s2_2 : List Int)) h1 rfl rfl ?_
      refine g_v (.int .i64 (s2_2.length : Int)) (ev_len (xs := s2_2) rfl) ?_
      refine g_v2 (t1 := 16) (t2 := 18) (u1 := (.int .i64 t11_6)) (u2 := (.int .i64 (s2_2.length : Int))) (.bool (decide (t11_6 ≥ (s2_2.length : Int)))) rfl rfl rfl rfl ?_
      refine g_end ?_
      refine e_end ?_
      refine renew [(0, (Enc.enc (s1_1 : List Int))), (1, (Enc.enc (s2_2 : List Int))), (4, (.int .i64 0)), (5, (.int .i64 t11_6)), (6, (.int .i64 e_10)), (9, (Enc.enc (s1_1 : List Int))), (10, (.int .i64 (s1_1.length : Int))), (11, (.int .i64 t11_6)), (19, (.bool (decide (t11_6 ≥ (s2_2.length : Int)))))] ⟨h0, h1, h4, h5, h6, h9, h10, h11, rfl⟩ ?_
      rintro s ⟨h0, h1, h4, h5, h6, h9, h10, h11, h19⟩
      refine .nsq ?_
      refine run_cond (t := decide (t11_6 ≥ (s2_2.length : Int))) h19 h (fun h => ?_) (fun h => ?_)
      · refine .seq ?_
        refine run_reg ?_
        refine e_end ?_
        refine g_v0 (.int .i64 1) rfl rfl ?_
        refine g_end ?_
        refine e_end ?_
        refine renew [(0, (Enc.enc (s1_1 : List Int))), (1, (Enc.enc (s2_2 : List Int))), (4, (.int .i64 1)), (5, (.int .i64 t11_6)), (6, (.int .i64 e_10)), (9, (Enc.enc (s1_1 : List Int))), (10, (.int .i64 (s1_1.length : Int))), (11, (.int .i64 t11_6))] ⟨h0, h1, rfl, h5, h6, h9, h10, h11⟩ ?_
        rintro s ⟨h0, h1, h4, h5, h6, h9, h10, h11⟩
        refine .nsq ?_
        refine .ret ?_
        have hr := Option.some.inj h
        subst hr
        exact rrA (res_tmp h4) rfl
      · refine .skip ?_
        refine .nsq ?_
        refine .seq ?_
        refine run_reg ?_
        refine e_end ?_
        refine g_v1 (t := 1) (u := (Enc.enc (s2_2 : List Int))) (Enc.enc (s2_2 : List Int)) h1 rfl rfl ?_
        refine g_v1 (t := 5) (u := (.int .i64 t11_6)) (.int .i64 t11_6) h5 rfl rfl ?_
        obtain ⟨e_11, E_e_11, h⟩ := bind_some h
        refine g_v (.ref .sh 0 [] (.int .i64 e_11)) (ev_idx (t := .sh) (lo := 0) (xs := s2_2) rfl rfl E_e_11 rfl rfl) ?_
        refine g_v1 (t := 22) (u := (.ref .sh 0 [] (.int .i64 e_11))) (.int .i64 e_11) rfl rfl rfl ?_
        refine g_v1 (t := 23) (u := (.int .i64 e_11)) (.int .i64 e_11) rfl rfl rfl ?_
        refine g_end ?_
        refine e_end ?_
        refine renew [(0, (Enc.enc (s1_1 : List Int))), (1, (Enc.enc (s2_2 : List Int))), (4, (.int .i64 0)), (6, (.int .i64 e_10)), (7, (.int .i64 e_11)), (9, (Enc.enc (s1_1 : List Int))), (10, (.int .i64 (s1_1.length : Int))), (11, (.int .i64 t11_6))] ⟨h0, h1, h4, h6, rfl, h9, h10, h11⟩ ?_
        rintro s ⟨h0, h1, h4, h6, h7, h9, h10, h11⟩
        refine .nsq ?_
        refine .seq ?_
        refine run_reg ?_
        refine e_end ?_
        refine g_v1 (t := 6) (u := (.int .i64 e_10)) (.int .i64 e_10) h6 rfl rfl ?_
        refine g_v1 (t := 7) (u := (.int .i64 e_11)) (.int .i64 e_11) h7 rfl rfl ?_
        obtain ⟨r_12, E_r_12, h⟩ := bind_some h
        refine g_call (m := 0) (al := false) (r := (Enc.enc (r_12 : Int))) [Enc.enc (e_10 : Int), Enc.enc (e_11 : Int)] (ta_cons (v := (.int .i64 e_10)) rfl rfl rfl (ta_cons (v := (.int .i64 e_11)) rfl rfl rfl ta_nil)) (H.c131 _ _ _ E_r_12) H.g131 rfl rfl rfl rfl ?_
        refine g_v1 (t := 26) (u := (.int .i64 r_12)) (.int .i64 r_12) rfl rfl rfl ?_
        refine g_end ?_
        refine e_end ?_
        refine renew [(0, (Enc.enc (s1_1 : List Int))), (1, (Enc.enc (s2_2 : List Int))), (4, (.int .i64 0)), (8, (.int .i64 r_12)), (9, (Enc.enc (s1_1 : List Int))), (10, (.int .i64 (s1_1.length : Int))), (11, (.int .i64 t11_6))] ⟨h0, h1, h4, rfl, h9, h10, h11⟩ ?_
        rintro s ⟨h0, h1, h4, h8, h9, h10, h11⟩
        refine .nsq ?_
        refine .seq ?_
        refine run_reg ?_
        refine e_end ?_
        refine g_v1 (t := 8) (u := (.int .i64 r_12)) (.int .i64 r_12) h8 rfl rfl ?_
        refine g_v1 (t := 27) (u := (.int .i64 r_12)) (.bool (r_12 != 0)) rfl rfl rfl ?_
        refine g_end ?_
        refine e_end ?_
        refine renew [(0, (Enc.enc (s1_1 : List Int))), (1, (Enc.enc (s2_2 : List Int))), (4, (.int .i64 0)), (8, (.int .i64 r_12)), (9, (Enc.enc (s1_1 : List Int))), (10, (.int .i64 (s1_1.length : Int))), (11, (.int .i64 t11_6)), (28, (.bool (r_12 != 0)))] ⟨h0, h1, h4, h8, h9, h10, h11, rfl⟩ ?_
        rintro s ⟨h0, h1, h4, h8, h9, h10, h11, h28⟩
        refine .nsq ?_
        refine run_cond (t := (r_12 != 0)) h28 h (fun h => ?_) (fun h => ?_)
        · refine .seq ?_
          refine run_reg ?_
          refine e_end ?_
          refine g_v1 (t := 8) (u := (.int .i64 r_12)) (.int .i64 r_12) h8 rfl rfl ?_
          refine g_v1 (t := 29) (u := (.int .i64 r_12)) (.int .i64 r_12) rfl rfl rfl ?_
          refine g_end ?_
          refine e_end ?_
          refine renew [(0, (Enc.enc (s1_1 : List Int))), (1, (Enc.enc (s2_2 : List Int))), (4, (.int .i64 r_12)), (9, (Enc.enc (s1_1 : List Int))), (10, (.int .i64 (s1_1.length : Int))), (11, (.int .i64 t11_6))] ⟨h0, h1, rfl, h9, h10, h11⟩ ?_
          rintro s ⟨h0, h1, h4, h9, h10, h11⟩
          refine .nsq ?_
          refine .ret ?_
          have hr := Option.some.inj h
          subst hr
          exact rrA (res_tmp h4) rfl
        · refine .skip ?_
          refine .nbk ?_
          refine .nsq ?_
          refine run_reg ?_
          refine e_end ?_
          refine g_v1 (t := 11) (u := (.int .i64 t11_6)) (.int .i64 (w64 (t11_6 + 1))) h11 rfl rfl ?_
          refine g_v1 (t := 30) (u := (.int .i64 (w64 (t11_6 + 1)))) (.int .i64 (w64 (t11_6 + 1))) rfl rfl rfl ?_
          refine g_end ?_
          refine e_end ?_
          refine renew [(0, (Enc.enc (s1_1 : List Int))), (1, (Enc.enc (s2_2 : List Int))), (4, (.int .i64 0)), (9, (Enc.enc (s1_1 : List Int))), (10, (.int .i64 (s1_1.length : Int))), (11, (.int .i64 (w64 (t11_6 + 1))))] ⟨h0, h1, h4, h9, h10, rfl⟩ ?_
          rintro s ⟨h0, h1, h4, h9, h10, h11⟩
          refine .nlp ?_
          exact ih (w64 (t11_6 + 1)) _ ⟨h0, h1, h4, h9, h10, h11⟩ h
    · refine .exit ?_
      refine .esq ?_
      refine .elp ?_
      refine .ebk ?_
      refine .nsq ?_
      refine .seq ?_
      refine .seq ?_
      refine run_reg ?_
      refine e_end ?_
      refine g_v1 (t := 0) (u := (Enc.enc (s1_1 : List Int))) (Enc.enc (s1_1 : List Int)) h0 rfl rfl ?_
      refine g_v (.int .i64 (s1_1.length : Int)) (ev_len (xs := s1_1) rfl) ?_
      refine g_v1 (t := 1) (u := (Enc.enc (s2_2 : List Int))) (Enc.enc (s2_2 : List Int)) h1 rfl rfl ?_
      refine g_v (.int .i64 (s2_2.length : Int)) (ev_len (xs := s2_2) rfl) ?_
      refine g_v2 (t1 := 32) (t2 := 34) (u1 := (.int .i64 (s1_1.length : Int))) (u2 := (.int .i64 (s2_2.length : Int))) (.bool (decide ((s1_1.length : Int) < (s2_2.length : Int)))) rfl rfl rfl rfl ?_
      refine g_end ?_
      refine e_end ?_
      refine renew [(4, (.int .i64 0)), (35, (.bool (decide ((s1_1.length : Int) < (s2_2.length : Int)))))] ⟨h4, rfl⟩ ?_
      rintro s ⟨h4, h35⟩
      refine .nsq ?_
      refine run_cond (t := decide ((s1_1.length : Int) < (s2_2.length : Int))) h35 h (fun h => ?_) (fun h => ?_)
      · refine .seq ?_
        refine run_reg ?_
        refine e_end ?_
        refine g_v0 (.int .i64 (-1)) rfl rfl ?_
        refine g_end ?_
        refine e_end ?_
        refine renew [(4, (.int .i64 (-1)))] rfl ?_
        rintro s h4
        refine .nsq ?_
        refine .ret ?_
        have hr := Option.some.inj h
        subst hr
        exact rrA (res_tmp h4) rfl
      · refine .skip ?_
        refine .nsq ?_
        refine .seq ?_
        refine run_reg ?_
        refine e_end ?_
        refine g_v0 (.int .i64 0) rfl rfl ?_
        refine g_end ?_
        refine e_end ?_
        refine renew [(4, (.int .i64 0))] rfl ?_
        rintro s h4
        refine .nsq ?_
        refine .ret ?_
        have hr := Option.some.inj h
        subst hr
        exact rrA (res_tmp h4) rfl
def slices_Compare (F : Nat) (s1_1 : (List Int)) (s2_2 : (List Int)) : Option Int :=
  slices_Compare_l1 F s1_1 s2_2 F 0
theorem t100 (H : H100 D σ F) (s1_1 : (List Int)) (s2_2 : (List Int)) (s : Nat → V) (hs : Facts [(0, (Enc.enc (s1_1 : List Int))), (1, (Enc.enc (s2_2 : List Int)))] s) (h : slices_Compare F s1_1 s2_2 = some r) : Run D σ (R100 r) (.run A100 []) s := by
  unfold slices_Compare at h
  obtain ⟨h0, h1⟩ := hs
  refine .seq ?_
  refine run_reg ?_
  refine e_end ?_
  refine g_v0 (.int .i64 0) rfl rfl ?_
  refine g_end ?_
  refine e_end ?_
  refine renew [(0, (Enc.enc (s1_1 : List Int))), (1, (Enc.enc (s2_2 : List Int))), (4, (.int .i64 0))] ⟨h0, h1, rfl⟩ ?_
  rintro s ⟨h0, h1, h4⟩
  refine .nsq ?_
  refine .seq ?_
  refine .seq ?_
  refine run_reg ?_
  refine e_end ?_
  refine g_v1 (t := 0) (u := (Enc.enc (s1_1 : List Int))) (Enc.enc (s1_1 : List Int)) h0 rfl rfl ?_
  refine g_v (.int .i64 (s1_1.length : Int)) (ev_len (xs := s1_1) rfl) ?_
  refine g_v0 (.int .i64 0) rfl rfl ?_
  refine g_end ?_
  refine e_end ?_
  refine renew [(0, (Enc.enc (s1_1 : List Int))), (1, (Enc.enc (s2_2 : List Int))), (4, (.int .i64 0)), (9, (Enc.enc (s1_1 : List Int))), (10, (.int .i64 (s1_1.length : Int))), (11, (.int .i64 0))] ⟨h0, h1, h4, rfl, rfl, rfl⟩ ?_
  rintro s ⟨h0, h1, h4, h9, h10, h11⟩
  refine .nsq ?_
  refine .block ?_
  refine .loop ?_
  exact t_f100_l1 H s1_1 s2_2 F 0 _ ⟨h0, h1, h4, h9, h10, h11⟩ h
end
def e100 (F : Nat) : Ent := ⟨100, da (fun (x : ((List Int) × (List Int) × Unit)) => slices_Compare F x.1 x.2.1) (fun (r : Int) => (Enc.enc (r : Int))), 0, false, selF []⟩
theorem p100 {F : Nat} {x0 : (List Int)} {x1 : (List Int)} {r : Int} (h : slices_Compare F x0 x1 = some r) : (e100 F).den [Enc.enc x0, Enc.enc x1] = some (Enc.enc (r : Int)) := da_put (f := fun (x : ((List Int) × (List Int) × Unit)) => slices_Compare F x.1 x.2.1) (t := fun (r : Int) => (Enc.enc (r : Int))) (x0, x1, ()) h
theorem o100 {D : Den} {σ : Sig} {F : Nat} (hF : Fits2 Try.prog D σ) (H : H100 D σ F) : (e100 F).Ok Try.prog := by
  refine ok_of (f := 100) (show unk 100 = 100 from rfl) (fun args r h => ?_) ⟨Try.f100, Try.func100, rfl, rfl⟩
  obtain ⟨⟨x0, x1, _⟩, y, rfl, hy, rfl⟩ := da_open h
  exact contract_run hF (by kernel_rfl) Try.func100 rfl c100 (show 2 ≤ Try.f100.ntmps by decide) (t100 H x0 x1 _ ⟨rfl, rfl⟩ hy)
/- loop.example/g01109/impl.IsGraph -/
def A50_5 : AC := (AC.cond (O.t 48) (AC.seq (AC.reg [] [(I.mk (some 2) none false (X.v (A.mov (O.k (V.bool false)))))] []) AC.ret) AC.skip)
def A50_4 : AC := (AC.seq (AC.reg [] [(I.mk (some 17) none false (X.v (A.idxA (O.t 4) (O.k (V.int IntKind.i64 (Int.ofNat 0))) 2 1))), (I.mk (some 18) none false (X.v (A.load Sh.s (O.t 17)))), (I.mk (some 19) none false (X.v (A.bin BinOp.lss (O.t 18) (O.k (V.int IntKind.i64 (Int.ofNat 0)))))), (I.mk (some 20) none false (X.v (A.mov (O.t 19)))), (I.mk (some 21) (some (20, false)) false (X.v (A.idxA (O.t 4) (O.k (V.int IntKind.i64 (Int.ofNat 0))) 2 1))), (I.mk (some 22) (some (20, false)) false (X.v (A.load Sh.s (O.t 21)))), (I.mk (some 23) (some (20, false)) false (X.v (A.idxA (O.t 4) (O.k (V.int IntKind.i64 (Int.ofNat 1))) 2 1))), (I.mk (some 24) (some (20, false)) false (X.v (A.load Sh.s (O.t 23)))), (I.mk (some 25) (some (20, false)) false (X.v (A.bin BinOp.geq (O.t 22) (O.t 24)))), (I.mk (some 26) none false (X.v (A.pick (O.t 20) (O.k (V.bool true)) (O.t 25)))), (I.mk (some 27) none false (X.v (A.mov (O.t 26)))), (I.mk (some 28) (some (27, false)) false (X.v (A.idxA (O.t 4) (O.k (V.int IntKind.i64 (Int.ofNat 1))) 2 1))), (I.mk (some 29) (some (27, false)) false (X.v (A.load Sh.s (O.t 28)))), (I.mk (some 30) (some (27, false)) false (X.v (A.fld (O.t 1) 0 0))), (I.mk (some 31) (some (27, false)) false (X.v (A.load Sh.s (O.t 30)))), (I.mk (some 32) (some (27, false)) false (X.v (A.bin BinOp.geq (O.t 29) (O.t 31)))), (I.mk (some 33) none false (X.v (A.pick (O.t 27) (O.k (V.bool true)) (O.t 32)))), (I.mk (some 34) none false (X.v (A.mov (O.t 33)))), (I.mk (some 35) (some (34, false)) false (X.v (A.mov (O.t 3)))), (I.mk (some 36) (some (34, false)) false (X.v (A.bin BinOp.gtr (O.t 35) (O.k (V.int IntKind.i64 (Int.ofNat 0)))))), (I.mk (some 37) (some (34, false)) false (X.v (A.mov (O.t 36)))), (I.mk (some 38) (some (37, true)) false (X.v (A.fld (O.t 1) 1 1))), (I.mk (some 39) (some (37, true)) false (X.v (A.load Sh.p (O.t 38)))), (I.mk (some 40) (some (37, true)) false (X.v (A.mov (O.t 3)))), (I.mk (some 41) (some (37, true)) false (X.v (A.bin BinOp.sub (O.t 40) (O.k (V.int IntKind.i64 (Int.ofNat 1)))))), (I.mk (some 42) (some (37, true)) false (X.v (A.idx (O.t 39) (O.t 41) 2))), (I.mk (some 43) (some (37, true)) false (X.v (A.sliceA (O.t 42) 2 Sh.s))), (I.mk (some 44) (some (37, true)) false (X.v (A.sliceA (O.t 4) 2 Sh.s))), (I.mk (some 45) (some (37, true)) false (X.call (O.k (V.fn 100 [] [])) [(O.t 43), (O.t 44)])), (I.mk (some 46) (some (37, true)) false (X.v (A.bin BinOp.geq (O.t 45) (O.k (V.int IntKind.i64 (Int.ofNat 0)))))), (I.mk (some 47) (some (34, false)) false (X.v (A.pick (O.t 37) (O.t 46) (O.k (V.bool false))))), (I.mk (some 48) none false (X.v (A.pick (O.t 34) (O.k (V.bool true)) (O.t 47))))] []) A50_5)
def A50_6 : AC := (AC.reg [] [(I.mk (some 49) none false (X.v (A.bin BinOp.add (O.t 12) (O.k (V.int IntKind.i64 (Int.ofNat 1)))))), (I.mk (some 12) none false (X.v (A.mov (O.t 49))))] [])
def A50_3 : AC := (AC.seq (AC.block 1 (AC.seq (AC.reg [.clr [4]] [(I.mk (some 14) none false (X.v (A.mov (O.t 12)))), (I.mk (some 15) none false (X.v (A.idx (O.t 10) (O.t 12) 2))), (I.mk (some 16) none false (X.v (A.load (Sh.ag [Sh.s, Sh.s]) (O.t 15)))), (I.mk (some 4) none false (X.alloc (V.agg [(V.int IntKind.i64 (Int.ofNat 0)), (V.int IntKind.i64 (Int.ofNat 0))]))), (I.mk (some 3) none false (X.v (A.mov (O.t 14)))), (I.mk none none false (X.store (Sh.ag [Sh.s, Sh.s]) (O.t 4) (O.t 16)))] []) A50_4)) A50_6)
def A50_2 : AC := (AC.seq (AC.cond (O.t 13) AC.skip (AC.exit 0)) A50_3)
def A50_1 : AC := (AC.seq (AC.reg [] [(I.mk (some 13) none false (X.v (A.bin BinOp.lss (O.t 12) (O.t 11))))] []) A50_2)
def A50_7 : AC := (AC.seq (AC.reg [] [(I.mk (some 2) none false (X.v (A.mov (O.k (V.bool true)))))] []) AC.ret)
def A50_9 : AC := (AC.cond (O.t 8) (AC.seq (AC.reg [] [(I.mk (some 2) none false (X.v (A.mov (O.k (V.bool false)))))] []) AC.ret) AC.skip)
def A50_11 : AC := (AC.block 0 (AC.loop A50_1))
def A50_10 : AC := (AC.seq (AC.seq (AC.reg [] [(I.mk (some 9) none false (X.v (A.fld (O.t 1) 1 1))), (I.mk (some 10) none false (X.v (A.load Sh.p (O.t 9)))), (I.mk (some 11) none false (X.v (A.len (O.t 10)))), (I.mk (some 12) none false (X.v (A.mov (O.k (V.int IntKind.i64 (Int.ofNat 0))))))] []) A50_11) A50_7)
def A50_8 : AC := (AC.seq (AC.seq (AC.reg [] [(I.mk (some 5) none false (X.v (A.fld (O.t 1) 0 0))), (I.mk (some 6) none false (X.v (A.load Sh.s (O.t 5)))), (I.mk (some 7) none false (X.call (O.k (V.fn 66 [] [])) [(O.t 6), (O.k (V.int IntKind.i64 (Int.ofNat 0))), (O.k (V.int IntKind.i64 (Int.ofNat 8)))])), (I.mk (some 8) none false (X.v (A.un UnOp.not (O.t 7))))] []) A50_9) A50_10)
def A50 : AC := (AC.seq (AC.reg [.clr [1]] [(I.mk (some 1) none false (X.box (O.t 0))), (I.mk (some 2) none false (X.v (A.mov (O.k (V.bool false)))))] []) A50_8)
def an50 : List An := [{ id := 0, pre := [.clr [1]], ep := [], lin := [], sp := [] }, { id := 5, pre := [.clr [4]], ep := [], lin := [], sp := [] }]
theorem c50 : cC Try.prog Try.f50.ntmps an50 (Try.f50.body.getD .skip) = some A50 := by kernel_rfl
structure H50 (D : Den) (σ : Sig) (F : Nat) : Prop where
  c66 : ∀ (x0 : Int) (x1 : Int) (x2 : Int) r, i_within F x0 x1 x2 = some r → D 66 [Enc.enc x0, Enc.enc x1, Enc.enc x2] = some (Enc.enc (r : Bool))
  g66 : σ 66 = some (0, false)
  c100 : ∀ (x0 : (List Int)) (x1 : (List Int)) r, slices_Compare F x0 x1 = some r → D 100 [Enc.enc x0, Enc.enc x1] = some (Enc.enc (r : Int))
  g100 : σ 100 = some (0, false)
abbrev R50 (r : Bool) : (Nat → V) → Prop := RR Try.prog [.tmp 2] 0 false (Enc.enc (r : Bool))
section
variable {D : Den} {σ : Sig} {F : Nat} {r : Bool}
def i_IsGraph_j1 (F : Nat) (g_1 : (Int × (List (Int × Int)))) (t12_9 : Int) (c1 : Int → Option Bool) (t48_19 : Bool) : Option Bool :=
  bif t48_19 then
    some false
  else
    c1 (w64 (t12_9 + 1))
theorem t_f50_j1 (H : H50 D σ F) (g_1 : (Int × (List (Int × Int)))) (t12_9 : Int) (c1 : Int → Option Bool) (Hc1 : ∀ (t12_9 : Int) (s : Nat → V), Facts [(1, (.ref (.bx 1) 0 [] (.agg [(.int .i64 g_1.1), (Enc.enc (g_1.2 : List (Int × Int)))]))), (2, (.bool false)), (10, (Enc.enc (g_1.2 : List (Int × Int)))), (11, (.int .i64 (g_1.2.length : Int))), (12, (.int .i64 t12_9))] s → c1 t12_9 = some r → Run D σ (R50 r) (.run A50_1 [.lp A50_1, .bk 0, .sq A50_7]) s) (t48_19 : Bool) (s : Nat → V) (hs : Facts [(1, (.ref (.bx 1) 0 [] (.agg [(.int .i64 g_1.1), (Enc.enc (g_1.2 : List (Int × Int)))]))), (2, (.bool false)), (10, (Enc.enc (g_1.2 : List (Int × Int)))), (11, (.int .i64 (g_1.2.length : Int))), (12, (.int .i64 t12_9)), (48, (.bool t48_19))] s) (h : i_IsGraph_j1 F g_1 t12_9 c1 t48_19 = some r) : Run D σ (R50 r) (.nrm [.sq A50_5, .bk 1, .sq A50_6, .lp A50_1, .bk 0, .sq A50_7]) s := by
  unfold i_IsGraph_j1 at h
  obtain ⟨h1, h2, h10, h11, h12, h48⟩ := hs
  refine .nsq ?_
  refine run_cond (t := t48_19) h48 h (fun h => ?_) (fun h => ?_)
  · refine .seq ?_
    refine run_reg ?_
    refine e_end ?_
    refine g_v0 (.bool false) rfl rfl ?_
    refine g_end ?_
    refine e_end ?_
    refine renew [(1, (.ref (.bx 1) 0 [] (.agg [(.int .i64 g_1.1), (Enc.enc (g_1.2 : List (Int × Int)))]))), (2, (.bool false)), (10, (Enc.enc (g_1.2 : List (Int × Int)))), (11, (.int .i64 (g_1.2.length : Int))), (12, (.int .i64 t12_9))] ⟨h1, rfl, h10, h11, h12⟩ ?_
    rintro s ⟨h1, h2, h10, h11, h12⟩
    refine .nsq ?_
    refine .ret ?_
    have hr := Option.some.inj h
    subst hr
    exact rrA (res_tmp h2) rfl
  · refine .skip ?_
    refine .nbk ?_
    refine .nsq ?_
    refine run_reg ?_
    refine e_end ?_
    refine g_v1 (t := 12) (u := (.int .i64 t12_9)) (.int .i64 (w64 (t12_9 + 1))) h12 rfl rfl ?_
    refine g_v1 (t := 49) (u := (.int .i64 (w64 (t12_9 + 1)))) (.int .i64 (w64 (t12_9 + 1))) rfl rfl rfl ?_
    refine g_end ?_
    refine e_end ?_
    refine renew [(1, (.ref (.bx 1) 0 [] (.agg [(.int .i64 g_1.1), (Enc.enc (g_1.2 : List (Int × Int)))]))), (2, (.bool false)), (10, (Enc.enc (g_1.2 : List (Int × Int)))), (11, (.int .i64 (g_1.2.length : Int))), (12, (.int .i64 (w64 (t12_9 + 1))))] ⟨h1, h2, h10, h11, rfl⟩ ?_
    rintro s ⟨h1, h2, h10, h11, h12⟩
    refine .nlp ?_
    exact Hc1 (w64 (t12_9 + 1)) _ ⟨h1, h2, h10, h11, h12⟩ h
def i_IsGraph_l1 (F : Nat) (g_1 : (Int × (List (Int × Int))))  : Nat → Int → Option Bool
  | 0, _ => none
  | k + 1, t12_9 =>
    bif decide (t12_9 < (g_1.2.length : Int)) then
      (idx g_1.2 t12_9).bind fun e_16 =>
      bif decide (e_16.1 < 0) then
        i_IsGraph_j1 F g_1 t12_9 (i_IsGraph_l1 F g_1 k) true
      else
        bif decide (e_16.1 ≥ e_16.2) then
          i_IsGraph_j1 F g_1 t12_9 (i_IsGraph_l1 F g_1 k) true
        else
          bif decide (e_16.2 ≥ g_1.1) then
            i_IsGraph_j1 F g_1 t12_9 (i_IsGraph_l1 F g_1 k) true
          else
            bif decide (t12_9 > 0) then
              (idx g_1.2 (w64 (t12_9 - 1))).bind fun e_20 =>
              (slices_Compare F [e_20.1, e_20.2] [e_16.1, e_16.2]).bind fun r_21 =>
              i_IsGraph_j1 F g_1 t12_9 (i_IsGraph_l1 F g_1 k) (decide (r_21 ≥ 0))
            else
              i_IsGraph_j1 F g_1 t12_9 (i_IsGraph_l1 F g_1 k) false
    else
      some true
theorem t_f50_l1 (H : H50 D σ F) (g_1 : (Int × (List (Int × Int))))  : ∀ (k : Nat) (t12_9 : Int) (s : Nat → V), Facts [(1, (.ref (.bx 1) 0 [] (.agg [(.int .i64 g_1.1), (Enc.enc (g_1.2 : List (Int × Int)))]))), (2, (.bool false)), (10, (Enc.enc (g_1.2 : List (Int × Int)))), (11, (.int .i64 (g_1.2.length : Int))), (12, (.int .i64 t12_9))] s → i_IsGraph_l1 F g_1 k t12_9 = some r → Run D σ (R50 r) (.run A50_1 [.lp A50_1, .bk 0, .sq A50_7]) s := by
  intro k
  induction k with
  | zero => intro t12_9 s _ h; exact nomatch (h : (none : Option _) = some r)
  | succ k ih =>
    intro t12_9 s hs h
    rw [i_IsGraph_l1] at h
    obtain ⟨h1, h2, h10, h11, h12⟩ := hs
    refine .seq ?_
    refine run_reg ?_
    refine e_end ?_
    refine g_v2 (t1 := 12) (t2 := 11) (u1 := (.int .i64 t12_9)) (u2 := (.int .i64 (g_1.2.length : Int))) (.bool (decide (t12_9 < (g_1.2.length : Int)))) h12 h11 rfl rfl ?_
    refine g_end ?_
    refine e_end ?_
    refine renew [(1, (.ref (.bx 1) 0 [] (.agg [(.int .i64 g_1.1), (Enc.enc (g_1.2 : List (Int × Int)))]))), (2, (.bool false)), (10, (Enc.enc (g_1.2 : List (Int × Int)))), (11, (.int .i64 (g_1.2.length : Int))), (12, (.int .i64 t12_9)), (13, (.bool (decide (t12_9 < (g_1.2.length : Int)))))] ⟨h1, h2, h10, h11, h12, rfl⟩ ?_
    rintro s ⟨h1, h2, h10, h11, h12, h13⟩
    refine .nsq ?_
    refine .seq ?_
    refine run_cond (t := decide (t12_9 < (g_1.2.length : Int))) h13 h (fun h => ?_) (fun h => ?_)
    · refine .skip ?_
      refine .nsq ?_
      refine .seq ?_
      refine .block ?_
      refine .seq ?_
      refine run_reg ?_
      refine e_clr ?_
      refine e_end ?_
      refine g_v1 (t := 12) (u := (.int .i64 t12_9)) (.int .i64 t12_9) (keep_clear (s := s) (pk := [4]) h12 rfl rfl) rfl rfl ?_
      obtain ⟨e_16, E_e_16, h⟩ := bind_some h
      refine g_v (.ref .sh 0 [] (.agg [(.int .i64 e_16.1), (.int .i64 e_16.2)])) (ev_idx (t := .sh) (lo := 0) (xs := g_1.2) (keep_clear (s := s) (pk := [4]) h10 rfl (Enc.map_enc _ (g_1.2 : List (Int × Int)))) (keep_clear (s := s) (pk := [4]) h12 rfl rfl) E_e_16 rfl rfl) ?_
      refine g_v1 (t := 15) (u := (.ref .sh 0 [] (.agg [(.int .i64 e_16.1), (.int .i64 e_16.2)]))) (.agg [(.int .i64 e_16.1), (.int .i64 e_16.2)]) rfl rfl rfl ?_
      refine g_alloc (gone_clear (s := s) (pk := [4]) (t := 4) rfl) ?_
      refine g_v1 (t := 14) (u := (.int .i64 t12_9)) (.int .i64 t12_9) rfl rfl rfl ?_
      refine g_store (.agg [(.int .i64 e_16.1), (.int .i64 e_16.2)]) (rd_of rfl rfl) (rd_of rfl rfl) (by refine ⟨by decide, by decide, rfl, rfl, rfl, ?_⟩; first | rfl | simp [V.toks, V.tokss, Enc.toks_enc]) ?_
      refine g_end ?_
      refine e_end ?_
      refine renew [(1, (.ref (.bx 1) 0 [] (.agg [(.int .i64 g_1.1), (Enc.enc (g_1.2 : List (Int × Int)))]))), (2, (.bool false)), (3, (.int .i64 t12_9)), (4, (.ref (.bx 4) 0 [] (.agg [(.int .i64 e_16.1), (.int .i64 e_16.2)]))), (10, (Enc.enc (g_1.2 : List (Int × Int)))), (11, (.int .i64 (g_1.2.length : Int))), (12, (.int .i64 t12_9))] ⟨(keep_mut (keep_clear (s := s) (pk := [4]) h1 rfl (map_bx rfl (map_agg (maps_cons rfl (maps_cons (Enc.map_enc _ (g_1.2 : List (Int × Int))) maps_nil))))) (mut_ref_ne rfl rfl (mut_agg (muts_cons rfl (muts_cons (Enc.mut_enc _ _ _ _ (g_1.2 : List (Int × Int))) rfl))))), (keep_mut (keep_clear (s := s) (pk := [4]) h2 rfl rfl) rfl), (keep_mut rfl rfl), (keep_mut rfl rfl), (keep_mut (keep_clear (s := s) (pk := [4]) h10 rfl (Enc.map_enc _ (g_1.2 : List (Int × Int)))) (Enc.mut_enc _ _ _ _ (g_1.2 : List (Int × Int)))), (keep_mut (keep_clear (s := s) (pk := [4]) h11 rfl rfl) rfl), (keep_mut (keep_clear (s := s) (pk := [4]) h12 rfl rfl) rfl)⟩ ?_
      rintro s ⟨h1, h2, h3, h4, h10, h11, h12⟩
      refine .nsq ?_
      refine .seq ?_
      refine run_reg ?_
      refine e_end ?_
      refine g_v1 (t := 4) (u := (.ref (.bx 4) 0 [] (.agg [(.int .i64 e_16.1), (.int .i64 e_16.2)]))) (.ref (.bx 4) 0 [0] (.int .i64 e_16.1)) h4 rfl rfl ?_
      refine g_v1 (t := 17) (u := (.ref (.bx 4) 0 [0] (.int .i64 e_16.1))) (.int .i64 e_16.1) rfl rfl rfl ?_
      refine g_v1 (t := 18) (u := (.int .i64 e_16.1)) (.bool (decide (e_16.1 < 0))) rfl rfl rfl ?_
      refine g_v1 (t := 19) (u := (.bool (decide (e_16.1 < 0)))) (.bool (decide (e_16.1 < 0))) rfl rfl rfl ?_
      refine split_on (c := decide (e_16.1 < 0)) h (fun hg4 h => ?_) (fun hg4 h => ?_)
      · refine g_no (Eq.trans (b := .bool (decide (e_16.1 < 0))) rfl (congrArg V.bool hg4)) ?_
        refine g_no (Eq.trans (b := .bool (decide (e_16.1 < 0))) rfl (congrArg V.bool hg4)) ?_
        refine g_no (Eq.trans (b := .bool (decide (e_16.1 < 0))) rfl (congrArg V.bool hg4)) ?_
        refine g_no (Eq.trans (b := .bool (decide (e_16.1 < 0))) rfl (congrArg V.bool hg4)) ?_
        refine g_no (Eq.trans (b := .bool (decide (e_16.1 < 0))) rfl (congrArg V.bool hg4)) ?_
        refine g_v2 (t1 := 20) (t2 := 25) (u1 := (.bool true)) (u2 := (.tup [])) (.bool true) (Eq.trans (b := .bool (decide (e_16.1 < 0))) rfl (congrArg V.bool hg4)) rfl rfl rfl ?_
        refine g_v1 (t := 26) (u := (.bool true)) (.bool true) rfl rfl rfl ?_
        refine g_no rfl ?_
        refine g_no rfl ?_
        refine g_no rfl ?_
        refine g_no rfl ?_
        refine g_no rfl ?_
        refine g_v2 (t1 := 27) (t2 := 32) (u1 := (.bool true)) (u2 := (.tup [])) (.bool true) rfl rfl rfl rfl ?_
        refine g_v1 (t := 33) (u := (.bool true)) (.bool true) rfl rfl rfl ?_
        refine g_no rfl ?_
        refine g_no rfl ?_
        refine g_no rfl ?_
        refine g_skip rfl ?_
        refine g_skip rfl ?_
        refine g_skip rfl ?_
        refine g_skip rfl ?_
        refine g_skip rfl ?_
        refine g_skip rfl ?_
        refine g_skip rfl ?_
        refine g_skip rfl ?_
        refine g_skip rfl ?_
        refine g_no rfl ?_
        refine g_v2 (t1 := 34) (t2 := 47) (u1 := (.bool true)) (u2 := (.tup [])) (.bool true) rfl rfl rfl rfl ?_
        refine g_end ?_
        refine e_end ?_
        refine renew [(1, (.ref (.bx 1) 0 [] (.agg [(.int .i64 g_1.1), (Enc.enc (g_1.2 : List (Int × Int)))]))), (2, (.bool false)), (10, (Enc.enc (g_1.2 : List (Int × Int)))), (11, (.int .i64 (g_1.2.length : Int))), (12, (.int .i64 t12_9)), (48, (.bool true))] ⟨h1, h2, h10, h11, h12, rfl⟩ ?_
        rintro s ⟨h1, h2, h10, h11, h12, h48⟩
        exact t_f50_j1 H g_1 t12_9 (i_IsGraph_l1 F g_1 k) ih true _ ⟨h1, h2, h10, h11, h12, h48⟩ h
      · refine g_yes (Eq.trans (b := .bool (decide (e_16.1 < 0))) rfl (congrArg V.bool hg4)) (g_v1 (t := 4) (u := (.ref (.bx 4) 0 [] (.agg [(.int .i64 e_16.1), (.int .i64 e_16.2)]))) (.ref (.bx 4) 0 [0] (.int .i64 e_16.1)) h4 rfl rfl ?_)
        refine g_yes (Eq.trans (b := .bool (decide (e_16.1 < 0))) rfl (congrArg V.bool hg4)) (g_v1 (t := 21) (u := (.ref (.bx 4) 0 [0] (.int .i64 e_16.1))) (.int .i64 e_16.1) rfl rfl rfl ?_)
        refine g_yes (Eq.trans (b := .bool (decide (e_16.1 < 0))) rfl (congrArg V.bool hg4)) (g_v1 (t := 4) (u := (.ref (.bx 4) 0 [] (.agg [(.int .i64 e_16.1), (.int .i64 e_16.2)]))) (.ref (.bx 4) 0 [1] (.int .i64 e_16.2)) h4 rfl rfl ?_)
        refine g_yes (Eq.trans (b := .bool (decide (e_16.1 < 0))) rfl (congrArg V.bool hg4)) (g_v1 (t := 23) (u := (.ref (.bx 4) 0 [1] (.int .i64 e_16.2))) (.int .i64 e_16.2) rfl rfl rfl ?_)
        refine g_yes (Eq.trans (b := .bool (decide (e_16.1 < 0))) rfl (congrArg V.bool hg4)) (g_v2 (t1 := 22) (t2 := 24) (u1 := (.int .i64 e_16.1)) (u2 := (.int .i64 e_16.2)) (.bool (decide (e_16.1 ≥ e_16.2))) rfl rfl rfl rfl ?_)
        refine g_v2 (t1 := 20) (t2 := 25) (u1 := (.bool false)) (u2 := (.bool (decide (e_16.1 ≥ e_16.2)))) (.bool (decide (e_16.1 ≥ e_16.2))) (Eq.trans (b := .bool (decide (e_16.1 < 0))) rfl (congrArg V.bool hg4)) rfl rfl rfl ?_
        refine g_v1 (t := 26) (u := (.bool (decide (e_16.1 ≥ e_16.2)))) (.bool (decide (e_16.1 ≥ e_16.2))) rfl rfl rfl ?_
        refine split_on (c := decide (e_16.1 ≥ e_16.2)) h (fun hg11 h => ?_) (fun hg11 h => ?_)
        · refine g_no (Eq.trans (b := .bool (decide (e_16.1 ≥ e_16.2))) rfl (congrArg V.bool hg11)) ?_
          refine g_no (Eq.trans (b := .bool (decide (e_16.1 ≥ e_16.2))) rfl (congrArg V.bool hg11)) ?_
          refine g_no (Eq.trans (b := .bool (decide (e_16.1 ≥ e_16.2))) rfl (congrArg V.bool hg11)) ?_
          refine g_no (Eq.trans (b := .bool (decide (e_16.1 ≥ e_16.2))) rfl (congrArg V.bool hg11)) ?_
          refine g_no (Eq.trans (b := .bool (decide (e_16.1 ≥ e_16.2))) rfl (congrArg V.bool hg11)) ?_
          refine g_v2 (t1 := 27) (t2 := 32) (u1 := (.bool true)) (u2 := (.tup [])) (.bool true) (Eq.trans (b := .bool (decide (e_16.1 ≥ e_16.2))) rfl (congrArg V.bool hg11)) rfl rfl rfl ?_
          refine g_v1 (t := 33) (u := (.bool true)) (.bool true) rfl rfl rfl ?_
          refine g_no rfl ?_
          refine g_no rfl ?_
          refine g_no rfl ?_
          refine g_skip rfl ?_
          refine g_skip rfl ?_
          refine g_skip rfl ?_
          refine g_skip rfl ?_
          refine g_skip rfl ?_
          refine g_skip rfl ?_
          refine g_skip rfl ?_
          refine g_skip rfl ?_
          refine g_skip rfl ?_
          refine g_no rfl ?_
          refine g_v2 (t1 := 34) (t2 := 47) (u1 := (.bool true)) (u2 := (.tup [])) (.bool true) rfl rfl rfl rfl ?_
          refine g_end ?_
          refine e_end ?_
          refine renew [(1, (.ref (.bx 1) 0 [] (.agg [(.int .i64 g_1.1), (Enc.enc (g_1.2 : List (Int × Int)))]))), (2, (.bool false)), (10, (Enc.enc (g_1.2 : List (Int × Int)))), (11, (.int .i64 (g_1.2.length : Int))), (12, (.int .i64 t12_9)), (48, (.bool true))] ⟨h1, h2, h10, h11, h12, rfl⟩ ?_
          rintro s ⟨h1, h2, h10, h11, h12, h48⟩
          exact t_f50_j1 H g_1 t12_9 (i_IsGraph_l1 F g_1 k) ih true _ ⟨h1, h2, h10, h11, h12, h48⟩ h
        · refine g_yes (Eq.trans (b := .bool (decide (e_16.1 ≥ e_16.2))) rfl (congrArg V.bool hg11)) (g_v1 (t := 4) (u := (.ref (.bx 4) 0 [] (.agg [(.int .i64 e_16.1), (.int .i64 e_16.2)]))) (.ref (.bx 4) 0 [1] (.int .i64 e_16.2)) h4 rfl rfl ?_)
          refine g_yes (Eq.trans (b := .bool (decide (e_16.1 ≥ e_16.2))) rfl (congrArg V.bool hg11)) (g_v1 (t := 28) (u := (.ref (.bx 4) 0 [1] (.int .i64 e_16.2))) (.int .i64 e_16.2) rfl rfl rfl ?_)
          refine g_yes (Eq.trans (b := .bool (decide (e_16.1 ≥ e_16.2))) rfl (congrArg V.bool hg11)) (g_v1 (t := 1) (u := (.ref (.bx 1) 0 [] (.agg [(.int .i64 g_1.1), (Enc.enc (g_1.2 : List (Int × Int)))]))) (.ref (.bx 1) 0 [0] (.int .i64 g_1.1)) h1 rfl rfl ?_)
          refine g_yes (Eq.trans (b := .bool (decide (e_16.1 ≥ e_16.2))) rfl (congrArg V.bool hg11)) (g_v1 (t := 30) (u := (.ref (.bx 1) 0 [0] (.int .i64 g_1.1))) (.int .i64 g_1.1) rfl rfl rfl ?_)
          refine g_yes (Eq.trans (b := .bool (decide (e_16.1 ≥ e_16.2))) rfl (congrArg V.bool hg11)) (g_v2 (t1 := 29) (t2 := 31) (u1 := (.int .i64 e_16.2)) (u2 := (.int .i64 g_1.1)) (.bool (decide (e_16.2 ≥ g_1.1))) rfl rfl rfl rfl ?_)
          refine g_v2 (t1 := 27) (t2 := 32) (u1 := (.bool false)) (u2 := (.bool (decide (e_16.2 ≥ g_1.1)))) (.bool (decide (e_16.2 ≥ g_1.1))) (Eq.trans (b := .bool (decide (e_16.1 ≥ e_16.2))) rfl (congrArg V.bool hg11)) rfl rfl rfl ?_
          refine g_v1 (t := 33) (u := (.bool (decide (e_16.2 ≥ g_1.1)))) (.bool (decide (e_16.2 ≥ g_1.1))) rfl rfl rfl ?_
          refine split_on (c := decide (e_16.2 ≥ g_1.1)) h (fun hg18 h => ?_) (fun hg18 h => ?_)
          · refine g_no (Eq.trans (b := .bool (decide (e_16.2 ≥ g_1.1))) rfl (congrArg V.bool hg18)) ?_
            refine g_no (Eq.trans (b := .bool (decide (e_16.2 ≥ g_1.1))) rfl (congrArg V.bool hg18)) ?_
            refine g_no (Eq.trans (b := .bool (decide (e_16.2 ≥ g_1.1))) rfl (congrArg V.bool hg18)) ?_
            refine g_skip rfl ?_
            refine g_skip rfl ?_
            refine g_skip rfl ?_
            refine g_skip rfl ?_
            refine g_skip rfl ?_
            refine g_skip rfl ?_
            refine g_skip rfl ?_
            refine g_skip rfl ?_
            refine g_skip rfl ?_
            refine g_no (Eq.trans (b := .bool (decide (e_16.2 ≥ g_1.1))) rfl (congrArg V.bool hg18)) ?_
            refine g_v2 (t1 := 34) (t2 := 47) (u1 := (.bool true)) (u2 := (.tup [])) (.bool true) (Eq.trans (b := .bool (decide (e_16.2 ≥ g_1.1))) rfl (congrArg V.bool hg18)) rfl rfl rfl ?_
            refine g_end ?_
            refine e_end ?_
            refine renew [(1, (.ref (.bx 1) 0 [] (.agg [(.int .i64 g_1.1), (Enc.enc (g_1.2 : List (Int × Int)))]))), (2, (.bool false)), (10, (Enc.enc (g_1.2 : List (Int × Int)))), (11, (.int .i64 (g_1.2.length : Int))), (12, (.int .i64 t12_9)), (48, (.bool true))] ⟨h1, h2, h10, h11, h12, rfl⟩ ?_
            rintro s ⟨h1, h2, h10, h11, h12, h48⟩
            exact t_f50_j1 H g_1 t12_9 (i_IsGraph_l1 F g_1 k) ih true _ ⟨h1, h2, h10, h11, h12, h48⟩ h
          · refine g_yes (Eq.trans (b := .bool (decide (e_16.2 ≥ g_1.1))) rfl (congrArg V.bool hg18)) (g_v1 (t := 3) (u := (.int .i64 t12_9)) (.int .i64 t12_9) h3 rfl rfl ?_)
            refine g_yes (Eq.trans (b := .bool (decide (e_16.2 ≥ g_1.1))) rfl (congrArg V.bool hg18)) (g_v1 (t := 35) (u := (.int .i64 t12_9)) (.bool (decide (t12_9 > 0))) rfl rfl rfl ?_)
            refine g_yes (Eq.trans (b := .bool (decide (e_16.2 ≥ g_1.1))) rfl (congrArg V.bool hg18)) (g_v1 (t := 36) (u := (.bool (decide (t12_9 > 0)))) (.bool (decide (t12_9 > 0))) rfl rfl rfl ?_)
            refine split_on (c := decide (t12_9 > 0)) h (fun hg21 h => ?_) (fun hg21 h => ?_)
            · refine g_yes (Eq.trans (b := .bool (decide (t12_9 > 0))) rfl (congrArg V.bool hg21)) (g_v1 (t := 1) (u := (.ref (.bx 1) 0 [] (.agg [(.int .i64 g_1.1), (Enc.enc (g_1.2 : List (Int × Int)))]))) (.ref (.bx 1) 0 [1] (Enc.enc (g_1.2 : List (Int × Int)))) h1 rfl rfl ?_)
              refine g_yes (Eq.trans (b := .bool (decide (t12_9 > 0))) rfl (congrArg V.bool hg21)) (g_v1 (t := 38) (u := (.ref (.bx 1) 0 [1] (Enc.enc (g_1.2 : List (Int × Int))))) (Enc.enc (g_1.2 : List (Int × Int))) rfl rfl rfl ?_)
              refine g_yes (Eq.trans (b := .bool (decide (t12_9 > 0))) rfl (congrArg V.bool hg21)) (g_v1 (t := 3) (u := (.int .i64 t12_9)) (.int .i64 t12_9) h3 rfl rfl ?_)
              refine g_yes (Eq.trans (b := .bool (decide (t12_9 > 0))) rfl (congrArg V.bool hg21)) (g_v1 (t := 40) (u := (.int .i64 t12_9)) (.int .i64 (w64 (t12_9 - 1))) rfl rfl rfl ?_)
              obtain ⟨e_20, E_e_20, h⟩ := bind_some h
              refine g_yes (Eq.trans (b := .bool (decide (t12_9 > 0))) rfl (congrArg V.bool hg21)) (g_v (.ref .sh 0 [] (.agg [(.int .i64 e_20.1), (.int .i64 e_20.2)])) (ev_idx (t := .sh) (lo := 0) (xs := g_1.2) rfl rfl E_e_20 rfl rfl) ?_)
              refine g_yes (Eq.trans (b := .bool (decide (t12_9 > 0))) rfl (congrArg V.bool hg21)) (g_v1 (t := 42) (u := (.ref .sh 0 [] (.agg [(.int .i64 e_20.1), (.int .i64 e_20.2)]))) (Enc.enc ([e_20.1, e_20.2] : List Int)) rfl rfl rfl ?_)
              refine g_yes (Eq.trans (b := .bool (decide (t12_9 > 0))) rfl (congrArg V.bool hg21)) (g_v1 (t := 4) (u := (.ref (.bx 4) 0 [] (.agg [(.int .i64 e_16.1), (.int .i64 e_16.2)]))) (encO (.bx 4) (.of ([e_16.1, e_16.2] : List Int))) h4 rfl rfl ?_)
              obtain ⟨r_21, E_r_21, h⟩ := bind_some h
              refine g_yes (Eq.trans (b := .bool (decide (t12_9 > 0))) rfl (congrArg V.bool hg21)) (g_call (m := 0) (al := false) (r := (Enc.enc (r_21 : Int))) [Enc.enc ([e_20.1, e_20.2] : (List Int)), Enc.enc ([e_16.1, e_16.2] : (List Int))] (ta_cons (v := (Enc.enc ([e_20.1, e_20.2] : List Int))) rfl rfl (Enc.erase_enc ([e_20.1, e_20.2] : (List Int))) (ta_cons (v := (encO (.bx 4) (.of ([e_16.1, e_16.2] : List Int)))) rfl rfl (erase_encO (o := .of [e_16.1, e_16.2])) ta_nil)) (H.c100 _ _ _ E_r_21) H.g100 rfl rfl rfl rfl ?_)
              refine g_yes (Eq.trans (b := .bool (decide (t12_9 > 0))) rfl (congrArg V.bool hg21)) (g_v1 (t := 45) (u := (.int .i64 r_21)) (.bool (decide (r_21 ≥ 0))) rfl rfl rfl ?_)
              refine g_yes (Eq.trans (b := .bool (decide (e_16.2 ≥ g_1.1))) rfl (congrArg V.bool hg18)) (g_v2 (t1 := 37) (t2 := 46) (u1 := (.bool true)) (u2 := (.bool (decide (r_21 ≥ 0)))) (.bool (decide (r_21 ≥ 0))) (Eq.trans (b := .bool (decide (t12_9 > 0))) rfl (congrArg V.bool hg21)) rfl rfl rfl ?_)
              refine g_v2 (t1 := 34) (t2 := 47) (u1 := (.bool false)) (u2 := (.bool (decide (r_21 ≥ 0)))) (.bool (decide (r_21 ≥ 0))) (Eq.trans (b := .bool (decide (e_16.2 ≥ g_1.1))) rfl (congrArg V.bool hg18)) rfl rfl rfl ?_
              refine g_end ?_
              refine e_end ?_
              refine renew [(1, (.ref (.bx 1) 0 [] (.agg [(.int .i64 g_1.1), (Enc.enc (g_1.2 : List (Int × Int)))]))), (2, (.bool false)), (10, (Enc.enc (g_1.2 : List (Int × Int)))), (11, (.int .i64 (g_1.2.length : Int))), (12, (.int .i64 t12_9)), (48, (.bool (decide (r_21 ≥ 0))))] ⟨h1, h2, h10, h11, h12, rfl⟩ ?_
              rintro s ⟨h1, h2, h10, h11, h12, h48⟩
              exact t_f50_j1 H g_1 t12_9 (i_IsGraph_l1 F g_1 k) ih (decide (r_21 ≥ 0)) _ ⟨h1, h2, h10, h11, h12, h48⟩ h
            · refine g_no (Eq.trans (b := .bool (decide (t12_9 > 0))) rfl (congrArg V.bool hg21)) ?_
              refine g_no (Eq.trans (b := .bool (decide (t12_9 > 0))) rfl (congrArg V.bool hg21)) ?_
              refine g_no (Eq.trans (b := .bool (decide (t12_9 > 0))) rfl (congrArg V.bool hg21)) ?_
              refine g_no (Eq.trans (b := .bool (decide (t12_9 > 0))) rfl (congrArg V.bool hg21)) ?_
              refine g_no (Eq.trans (b := .bool (decide (t12_9 > 0))) rfl (congrArg V.bool hg21)) ?_
              refine g_no (Eq.trans (b := .bool (decide (t12_9 > 0))) rfl (congrArg V.bool hg21)) ?_
              refine g_no (Eq.trans (b := .bool (decide (t12_9 > 0))) rfl (congrArg V.bool hg21)) ?_
              refine g_no (Eq.trans (b := .bool (decide (t12_9 > 0))) rfl (congrArg V.bool hg21)) ?_
              refine g_no (Eq.trans (b := .bool (decide (t12_9 > 0))) rfl (congrArg V.bool hg21)) ?_
              refine g_yes (Eq.trans (b := .bool (decide (e_16.2 ≥ g_1.1))) rfl (congrArg V.bool hg18)) (g_v2 (t1 := 37) (t2 := 46) (u1 := (.bool false)) (u2 := (.tup [])) (.bool false) (Eq.trans (b := .bool (decide (t12_9 > 0))) rfl (congrArg V.bool hg21)) rfl rfl rfl ?_)
              refine g_v2 (t1 := 34) (t2 := 47) (u1 := (.bool false)) (u2 := (.bool false)) (.bool false) (Eq.trans (b := .bool (decide (e_16.2 ≥ g_1.1))) rfl (congrArg V.bool hg18)) rfl rfl rfl ?_
              refine g_end ?_
              refine e_end ?_
              refine renew [(1, (.ref (.bx 1) 0 [] (.agg [(.int .i64 g_1.1), (Enc.enc (g_1.2 : List (Int × Int)))]))), (2, (.bool false)), (10, (Enc.enc (g_1.2 : List (Int × Int)))), (11, (.int .i64 (g_1.2.length : Int))), (12, (.int .i64 t12_9)), (48, (.bool false))] ⟨h1, h2, h10, h11, h12, rfl⟩ ?_
              rintro s ⟨h1, h2, h10, h11, h12, h48⟩
              exact t_f50_j1 H g_1 t12_9 (i_IsGraph_l1 F g_1 k) ih false _ ⟨h1, h2, h10, h11, h12, h48⟩ h
    · refine .exit ?_
      refine .esq ?_
      refine .elp ?_
      refine .ebk ?_
      refine .nsq ?_
      refine .seq ?_
      refine run_reg ?_
      refine e_end ?_
      refine g_v0 (.bool true) rfl rfl ?_
      refine g_end ?_
      refine e_end ?_
      refine renew [(2, (.bool true))] rfl ?_
      rintro s h2
      refine .nsq ?_
      refine .ret ?_
      have hr := Option.some.inj h
      subst hr
      exact rrA (res_tmp h2) rfl
def i_IsGraph (F : Nat) (g_1 : (Int × (List (Int × Int)))) : Option Bool :=
  (i_within F g_1.1 0 8).bind fun r_2 =>
  bif (!r_2) then
    some false
  else
    i_IsGraph_l1 F g_1 F 0
theorem t50 (H : H50 D σ F) (g_1 : (Int × (List (Int × Int)))) (s : Nat → V) (hs : Facts [(0, (.agg [(.int .i64 g_1.1), (Enc.enc (g_1.2 : List (Int × Int)))]))] s) (h : i_IsGraph F g_1 = some r) : Run D σ (R50 r) (.run A50 []) s := by
  unfold i_IsGraph at h
  have h0 := hs
  refine .seq ?_
  refine run_reg ?_
  refine e_clr ?_
  refine e_end ?_
  refine g_box (.agg [(.int .i64 g_1.1), (Enc.enc (g_1.2 : List (Int × Int)))]) (rd_of (keep_clear (s := s) (pk := [1]) h0 rfl (map_agg (maps_cons rfl (maps_cons (Enc.map_enc _ (g_1.2 : List (Int × Int))) maps_nil)))) rfl) (gone_clear (s := s) (pk := [1]) (t := 1) rfl) rfl ?_
  refine g_v0 (.bool false) rfl rfl ?_
  refine g_end ?_
  refine e_end ?_
  refine renew [(1, (.ref (.bx 1) 0 [] (.agg [(.int .i64 g_1.1), (Enc.enc (g_1.2 : List (Int × Int)))]))), (2, (.bool false))] ⟨rfl, rfl⟩ ?_
  rintro s ⟨h1, h2⟩
  refine .nsq ?_
  refine .seq ?_
  refine .seq ?_
  refine run_reg ?_
  refine e_end ?_
  refine g_v1 (t := 1) (u := (.ref (.bx 1) 0 [] (.agg [(.int .i64 g_1.1), (Enc.enc (g_1.2 : List (Int × Int)))]))) (.ref (.bx 1) 0 [0] (.int .i64 g_1.1)) h1 rfl rfl ?_
  refine g_v1 (t := 5) (u := (.ref (.bx 1) 0 [0] (.int .i64 g_1.1))) (.int .i64 g_1.1) rfl rfl rfl ?_
  obtain ⟨r_2, E_r_2, h⟩ := bind_some h
  refine g_call (m := 0) (al := false) (r := (Enc.enc (r_2 : Bool))) [Enc.enc (g_1.1 : Int), Enc.enc (0 : Int), Enc.enc (8 : Int)] (ta_cons (v := (.int .i64 g_1.1)) rfl rfl rfl (ta_cons (v := (.int .i64 0)) rfl rfl rfl (ta_cons (v := (.int .i64 8)) rfl rfl rfl ta_nil))) (H.c66 _ _ _ _ E_r_2) H.g66 rfl rfl rfl rfl ?_
  refine g_v1 (t := 7) (u := (.bool r_2)) (.bool (!r_2)) rfl rfl rfl ?_
  refine g_end ?_
  refine e_end ?_
  refine renew [(1, (.ref (.bx 1) 0 [] (.agg [(.int .i64 g_1.1), (Enc.enc (g_1.2 : List (Int × Int)))]))), (2, (.bool false)), (8, (.bool (!r_2)))] ⟨h1, h2, rfl⟩ ?_
  rintro s ⟨h1, h2, h8⟩
  refine .nsq ?_
  refine run_cond (t := (!r_2)) h8 h (fun h => ?_) (fun h => ?_)
  · refine .seq ?_
    refine run_reg ?_
    refine e_end ?_
    refine g_v0 (.bool false) rfl rfl ?_
    refine g_end ?_
    refine e_end ?_
    refine renew [(1, (.ref (.bx 1) 0 [] (.agg [(.int .i64 g_1.1), (Enc.enc (g_1.2 : List (Int × Int)))]))), (2, (.bool false))] ⟨h1, rfl⟩ ?_
    rintro s ⟨h1, h2⟩
    refine .nsq ?_
    refine .ret ?_
    have hr := Option.some.inj h
    subst hr
    exact rrA (res_tmp h2) rfl
  · refine .skip ?_
    refine .nsq ?_
    refine .seq ?_
    refine .seq ?_
    refine run_reg ?_
    refine e_end ?_
    refine g_v1 (t := 1) (u := (.ref (.bx 1) 0 [] (.agg [(.int .i64 g_1.1), (Enc.enc (g_1.2 : List (Int × Int)))]))) (.ref (.bx 1) 0 [1] (Enc.enc (g_1.2 : List (Int × Int)))) h1 rfl rfl ?_
    refine g_v1 (t := 9) (u := (.ref (.bx 1) 0 [1] (Enc.enc (g_1.2 : List (Int × Int))))) (Enc.enc (g_1.2 : List (Int × Int))) rfl rfl rfl ?_
    refine g_v (.int .i64 (g_1.2.length : Int)) (ev_len (xs := g_1.2) rfl) ?_
    refine g_v0 (.int .i64 0) rfl rfl ?_
    refine g_end ?_
    refine e_end ?_
    refine renew [(1, (.ref (.bx 1) 0 [] (.agg [(.int .i64 g_1.1), (Enc.enc (g_1.2 : List (Int × Int)))]))), (2, (.bool false)), (10, (Enc.enc (g_1.2 : List (Int × Int)))), (11, (.int .i64 (g_1.2.length : Int))), (12, (.int .i64 0))] ⟨h1, h2, rfl, rfl, rfl⟩ ?_
    rintro s ⟨h1, h2, h10, h11, h12⟩
    refine .nsq ?_
    refine .block ?_
    refine .loop ?_
    exact t_f50_l1 H g_1 F 0 _ ⟨h1, h2, h10, h11, h12⟩ h
end
def e50 (F : Nat) : Ent := ⟨50, da (fun (x : ((Int × (List (Int × Int))) × Unit)) => i_IsGraph F x.1) (fun (r : Bool) => (Enc.enc (r : Bool))), 0, false, selF []⟩
theorem p50 {F : Nat} {x0 : (Int × (List (Int × Int)))} {r : Bool} (h : i_IsGraph F x0 = some r) : (e50 F).den [Enc.enc x0] = some (Enc.enc (r : Bool)) := da_put (f := fun (x : ((Int × (List (Int × Int))) × Unit)) => i_IsGraph F x.1) (t := fun (r : Bool) => (Enc.enc (r : Bool))) (x0, ()) h
theorem o50 {D : Den} {σ : Sig} {F : Nat} (hF : Fits2 Try.prog D σ) (H : H50 D σ F) : (e50 F).Ok Try.prog := by
  refine ok_of (f := 50) (show unk 50 = 50 from rfl) (fun args r h => ?_) ⟨Try.f50, Try.func50, rfl, rfl⟩
  obtain ⟨⟨x0, _⟩, y, rfl, hy, rfl⟩ := da_open h
  exact contract_run hF (by kernel_rfl) Try.func50 rfl c50 (show 1 ≤ Try.f50.ntmps by decide) (t50 H x0 _ rfl hy)
/- loop.example/g01109/impl.allWithin -/
def A101_5 : AC := (AC.cond (O.t 19) (AC.seq (AC.reg [] [(I.mk (some 6) none false (X.v (A.mov (O.k (V.bool false)))))] []) AC.ret) AC.skip)
def A101_4 : AC := (AC.seq (AC.reg [] [(I.mk (some 15) none false (X.v (A.mov (O.t 8)))), (I.mk (some 16) none false (X.v (A.mov (O.t 1)))), (I.mk (some 17) none false (X.v (A.mov (O.t 2)))), (I.mk (some 18) none false (X.call (O.k (V.fn 66 [] [])) [(O.t 15), (O.t 16), (O.t 17)])), (I.mk (some 19) none false (X.v (A.un UnOp.not (O.t 18))))] []) A101_5)
def A101_6 : AC := (AC.reg [] [(I.mk (some 20) none false (X.v (A.bin BinOp.add (O.t 11) (O.k (V.int IntKind.i64 (Int.ofNat 1)))))), (I.mk (some 11) none false (X.v (A.mov (O.t 20))))] [])
def A101_3 : AC := (AC.seq (AC.block 1 (AC.seq (AC.reg [] [(I.mk (some 13) none false (X.v (A.idx (O.t 9) (O.t 11) 1))), (I.mk (some 14) none false (X.v (A.load Sh.s (O.t 13)))), (I.mk (some 8) none false (X.v (A.mov (O.t 14))))] []) A101_4)) A101_6)
def A101_2 : AC := (AC.seq (AC.cond (O.t 12) AC.skip (AC.exit 0)) A101_3)
def A101_1 : AC := (AC.seq (AC.reg [] [(I.mk (some 12) none false (X.v (A.bin BinOp.lss (O.t 11) (O.t 10))))] []) A101_2)
def A101_7 : AC := (AC.seq (AC.reg [] [(I.mk (some 6) none false (X.v (A.mov (O.k (V.bool true)))))] []) AC.ret)
def A101_9 : AC := (AC.block 0 (AC.loop A101_1))
def A101_8 : AC := (AC.seq (AC.seq (AC.reg [] [(I.mk (some 9) none false (X.v (A.mov (O.t 0)))), (I.mk (some 10) none false (X.v (A.len (O.t 9)))), (I.mk (some 11) none false (X.v (A.mov (O.k (V.int IntKind.i64 (Int.ofNat 0))))))] []) A101_9) A101_7)
def A101 : AC := (AC.seq (AC.reg [] [(I.mk (some 6) none false (X.v (A.mov (O.k (V.bool false)))))] []) A101_8)
def an101 : List An := []
theorem c101 : cC Try.prog Try.f101.ntmps an101 (Try.f101.body.getD .skip) = some A101 := by kernel_rfl
structure H101 (D : Den) (σ : Sig) (F : Nat) : Prop where
  c66 : ∀ (x0 : Int) (x1 : Int) (x2 : Int) r, i_within F x0 x1 x2 = some r → D 66 [Enc.enc x0, Enc.enc x1, Enc.enc x2] = some (Enc.enc (r : Bool))
  g66 : σ 66 = some (0, false)
abbrev R101 (r : Bool) : (Nat → V) → Prop := RR Try.prog [.tmp 6] 0 false (Enc.enc (r : Bool))
section
variable {D : Den} {σ : Sig} {F : Nat} {r : Bool}
def i_allWithin_l1 (F : Nat) (low_2 : Int) (high_3 : Int) (list_1 : (List Int))  : Nat → Int → Option Bool
  | 0, _ => none
  | k + 1, t11_6 =>
    bif decide (t11_6 < (list_1.length : Int)) then
      (idx list_1 t11_6).bind fun e_9 =>
      (i_within F e_9 low_2 high_3).bind fun r_10 =>
      bif (!r_10) then
        some false
      else
        (i_allWithin_l1 F low_2 high_3 list_1 k) (w64 (t11_6 + 1))
    else
      some true
theorem t_f101_l1 (H : H101 D σ F) (low_2 : Int) (high_3 : Int) (list_1 : (List Int))  : ∀ (k : Nat) (t11_6 : Int) (s : Nat → V), Facts [(1, (.int .i64 low_2)), (2, (.int .i64 high_3)), (6, (.bool false)), (9, (Enc.enc (list_1 : List Int))), (10, (.int .i64 (list_1.length : Int))), (11, (.int .i64 t11_6))] s → i_allWithin_l1 F low_2 high_3 list_1 k t11_6 = some r → Run D σ (R101 r) (.run A101_1 [.lp A101_1, .bk 0, .sq A101_7]) s := by
  intro k
  induction k with
  | zero => intro t11_6 s _ h; exact nomatch (h : (none : Option _) = some r)
  | succ k ih =>
    intro t11_6 s hs h
    rw [i_allWithin_l1] at h
    obtain ⟨h1, h2, h6, h9, h10, h11⟩ := hs
    refine .seq ?_
    refine run_reg ?_
    refine e_end ?_
    refine g_v2 (t1 := 11) (t2 := 10) (u1 := (.int .i64 t11_6)) (u2 := (.int .i64 (list_1.length : Int))) (.bool (decide (t11_6 < (list_1.length : Int)))) h11 h10 rfl rfl ?_
    refine g_end ?_
    refine e_end ?_
    refine renew [(1, (.int .i64 low_2)), (2, (.int .i64 high_3)), (6, (.bool false)), (9, (Enc.enc (list_1 : List Int))), (10, (.int .i64 (list_1.length : Int))), (11, (.int .i64 t11_6)), (12, (.bool (decide (t11_6 < (list_1.length : Int)))))] ⟨h1, h2, h6, h9, h10, h11, rfl⟩ ?_
    rintro s ⟨h1, h2, h6, h9, h10, h11, h12⟩
    refine .nsq ?_
    refine .seq ?_
    refine run_cond (t := decide (t11_6 < (list_1.length : Int))) h12 h (fun h => ?_) (fun h => ?_)
    · refine .skip ?_
      refine .nsq ?_
      refine .seq ?_
      refine .block ?_
      refine .seq ?_
      refine run_reg ?_
      refine e_end ?_
      obtain ⟨e_9, E_e_9, h⟩ := bind_some h
      refine g_v (.ref .sh 0 [] (.int .i64 e_9)) (ev_idx (t := .sh) (lo := 0) (xs := list_1) h9 h11 E_e_9 rfl rfl) ?_
      refine g_v1 (t := 13) (u := (.ref .sh 0 [] (.int .i64 e_9))) (.int .i64 e_9) rfl rfl rfl ?_
      refine g_v1 (t := 14) (u := (.int .i64 e_9)) (.int .i64 e_9) rfl rfl rfl ?_
      refine g_end ?_
      refine e_end ?_
      refine renew [(1, (.int .i64 low_2)), (2, (.int .i64 high_3)), (6, (.bool false)), (8, (.int .i64 e_9)), (9, (Enc.enc (list_1 : List Int))), (10, (.int .i64 (list_1.length : Int))), (11, (.int .i64 t11_6))] ⟨h1, h2, h6, rfl, h9, h10, h11⟩ ?_
      rintro s ⟨h1, h2, h6, h8, h9, h10, h11⟩
      refine .nsq ?_
      refine .seq ?_
      refine run_reg ?_
      refine e_end ?_
      refine g_v1 (t := 8) (u := (.int .i64 e_9)) (.int .i64 e_9) h8 rfl rfl ?_
      refine g_v1 (t := 1) (u := (.int .i64 low_2)) (.int .i64 low_2) h1 rfl rfl ?_
      refine g_v1 (t := 2) (u := (.int .i64 high_3)) (.int .i64 high_3) h2 rfl rfl ?_
      obtain ⟨r_10, E_r_10, h⟩ := bind_some h
      refine g_call (m := 0) (al := false) (r := (Enc.enc (r_10 : Bool))) [Enc.enc (e_9 : Int), Enc.enc (low_2 : Int), Enc.enc (high_3 : Int)] (ta_cons (v := (.int .i64 e_9)) rfl rfl rfl (ta_cons (v := (.int .i64 low_2)) rfl rfl rfl (ta_cons (v := (.int .i64 high_3)) rfl rfl rfl ta_nil))) (H.c66 _ _ _ _ E_r_10) H.g66 rfl rfl rfl rfl ?_
      refine g_v1 (t := 18) (u := (.bool r_10)) (.bool (!r_10)) rfl rfl rfl ?_
      refine g_end ?_
      refine e_end ?_
      refine renew [(1, (.int .i64 low_2)), (2, (.int .i64 high_3)), (6, (.bool false)), (9, (Enc.enc (list_1 : List Int))), (10, (.int .i64 (list_1.length : Int))), (11, (.int .i64 t11_6)), (19, (.bool (!r_10)))] ⟨h1, h2, h6, h9, h10, h11, rfl⟩ ?_
      rintro s ⟨h1, h2, h6, h9, h10, h11, h19⟩
      refine .nsq ?_
      refine run_cond (t := (!r_10)) h19 h (fun h => ?_) (fun h => ?_)
      · refine .seq ?_
        refine run_reg ?_
        refine e_end ?_
        refine g_v0 (.bool false) rfl rfl ?_
        refine g_end ?_
        refine e_end ?_
        refine renew [(1, (.int .i64 low_2)), (2, (.int .i64 high_3)), (6, (.bool false)), (9, (Enc.enc (list_1 : List Int))), (10, (.int .i64 (list_1.length : Int))), (11, (.int .i64 t11_6))] ⟨h1, h2, rfl, h9, h10, h11⟩ ?_
        rintro s ⟨h1, h2, h6, h9, h10, h11⟩
        refine .nsq ?_
        refine .ret ?_
        have hr := Option.some.inj h
        subst hr
        exact rrA (res_tmp h6) rfl
      · refine .skip ?_
        refine .nbk ?_
        refine .nsq ?_
        refine run_reg ?_
        refine e_end ?_
        refine g_v1 (t := 11) (u := (.int .i64 t11_6)) (.int .i64 (w64 (t11_6 + 1))) h11 rfl rfl ?_
        refine g_v1 (t := 20) (u := (.int .i64 (w64 (t11_6 + 1)))) (.int .i64 (w64 (t11_6 + 1))) rfl rfl rfl ?_
        refine g_end ?_
        refine e_end ?_
        refine renew [(1, (.int .i64 low_2)), (2, (.int .i64 high_3)), (6, (.bool false)), (9, (Enc.enc (list_1 : List Int))), (10, (.int .i64 (list_1.length : Int))), (11, (.int .i64 (w64 (t11_6 + 1))))] ⟨h1, h2, h6, h9, h10, rfl⟩ ?_
        rintro s ⟨h1, h2, h6, h9, h10, h11⟩
        refine .nlp ?_
        exact ih (w64 (t11_6 + 1)) _ ⟨h1, h2, h6, h9, h10, h11⟩ h
    · refine .exit ?_
      refine .esq ?_
      refine .elp ?_
      refine .ebk ?_
      refine .nsq ?_
      refine .seq ?_
      refine run_reg ?_
      refine e_end ?_
      refine g_v0 (.bool true) rfl rfl ?_
      refine g_end ?_
      refine e_end ?_
      refine renew [(6, (.bool true))] rfl ?_
      rintro s h6
      refine .nsq ?_
      refine .ret ?_
      have hr := Option.some.inj h
      subst hr
      exact rrA (res_tmp h6) rfl
def i_allWithin (F : Nat) (list_1 : (List Int)) (low_2 : Int) (high_3 : Int) : Option Bool :=
  i_allWithin_l1 F low_2 high_3 list_1 F 0
theorem t101 (H : H101 D σ F) (list_1 : (List Int)) (low_2 : Int) (high_3 : Int) (s : Nat → V) (hs : Facts [(0, (Enc.enc (list_1 : List Int))), (1, (.int .i64 low_2)), (2, (.int .i64 high_3))] s) (h : i_allWithin F list_1 low_2 high_3 = some r) : Run D σ (R101 r) (.run A101 []) s := by
  unfold i_allWithin at h
  obtain ⟨h0, h1, h2⟩ := hs
  refine .seq ?_
  refine run_reg ?_
  refine e_end ?_
  refine g_v0 (.bool false) rfl rfl ?_
  refine g_end ?_
  refine e_end ?_
  refine renew [(0, (Enc.enc (list_1 : List Int))), (1, (.int .i64 low_2)), (2, (.int .i64 high_3)), (6, (.bool false))] ⟨h0, h1, h2, rfl⟩ ?_
  rintro s ⟨h0, h1, h2, h6⟩
  refine .nsq ?_
  refine .seq ?_
  refine .seq ?_
  refine run_reg ?_
  refine e_end ?_
  refine g_v1 (t := 0) (u := (Enc.enc (list_1 : List Int))) (Enc.enc (list_1 : List Int)) h0 rfl rfl ?_
  refine g_v (.int .i64 (list_1.length : Int)) (ev_len (xs := list_1) rfl) ?_
  refine g_v0 (.int .i64 0) rfl rfl ?_
  refine g_end ?_
  refine e_end ?_
  refine renew [(1, (.int .i64 low_2)), (2, (.int .i64 high_3)), (6, (.bool false)), (9, (Enc.enc (list_1 : List Int))), (10, (.int .i64 (list_1.length : Int))), (11, (.int .i64 0))] ⟨h1, h2, h6, rfl, rfl, rfl⟩ ?_
  rintro s ⟨h1, h2, h6, h9, h10, h11⟩
  refine .nsq ?_
  refine .block ?_
  refine .loop ?_
  exact t_f101_l1 H low_2 high_3 list_1 F 0 _ ⟨h1, h2, h6, h9, h10, h11⟩ h
end
def e101 (F : Nat) : Ent := ⟨101, da (fun (x : ((List Int) × Int × Int × Unit)) => i_allWithin F x.1 x.2.1 x.2.2.1) (fun (r : Bool) => (Enc.enc (r : Bool))), 0, false, selF []⟩
theorem p101 {F : Nat} {x0 : (List Int)} {x1 : Int} {x2 : Int} {r : Bool} (h : i_allWithin F x0 x1 x2 = some r) : (e101 F).den [Enc.enc x0, Enc.enc x1, Enc.enc x2] = some (Enc.enc (r : Bool)) := da_put (f := fun (x : ((List Int) × Int × Int × Unit)) => i_allWithin F x.1 x.2.1 x.2.2.1) (t := fun (r : Bool) => (Enc.enc (r : Bool))) (x0, x1, x2, ()) h
theorem o101 {D : Den} {σ : Sig} {F : Nat} (hF : Fits2 Try.prog D σ) (H : H101 D σ F) : (e101 F).Ok Try.prog := by
  refine ok_of (f := 101) (show unk 101 = 101 from rfl) (fun args r h => ?_) ⟨Try.f101, Try.func101, rfl, rfl⟩
  obtain ⟨⟨x0, x1, x2, _⟩, y, rfl, hy, rfl⟩ := da_open h
  exact contract_run hF (by kernel_rfl) Try.func101 rfl c101 (show 3 ≤ Try.f101.ntmps by decide) (t101 H x0 x1 x2 _ ⟨rfl, rfl, rfl⟩ hy)
/- loop.example/g01109/impl.maskOf -/
def A88_4 : AC := (AC.reg [] [(I.mk (some 12) none false (X.v (A.mov (O.t 3)))), (I.mk (some 13) none false (X.v (A.mov (O.t 5)))), (I.mk (some 14) none false (X.v (A.bin BinOp.shl (O.k (V.int IntKind.i64 (Int.ofNat 1))) (O.t 13)))), (I.mk (some 15) none false (X.v (A.bin BinOp.or (O.t 12) (O.t 14)))), (I.mk (some 3) none false (X.v (A.mov (O.t 15))))] [])
def A88_5 : AC := (AC.reg [] [(I.mk (some 16) none false (X.v (A.bin BinOp.add (O.t 8) (O.k (V.int IntKind.i64 (Int.ofNat 1)))))), (I.mk (some 8) none false (X.v (A.mov (O.t 16))))] [])
def A88_3 : AC := (AC.seq (AC.block 1 (AC.seq (AC.reg [] [(I.mk (some 10) none false (X.v (A.idx (O.t 6) (O.t 8) 1))), (I.mk (some 11) none false (X.v (A.load Sh.s (O.t 10)))), (I.mk (some 5) none false (X.v (A.mov (O.t 11))))] []) A88_4)) A88_5)
def A88_2 : AC := (AC.seq (AC.cond (O.t 9) AC.skip (AC.exit 0)) A88_3)
def A88_1 : AC := (AC.seq (AC.reg [] [(I.mk (some 9) none false (X.v (A.bin BinOp.lss (O.t 8) (O.t 7))))] []) A88_2)
def A88_6 : AC := (AC.seq (AC.reg [] [(I.mk (some 17) none false (X.v (A.mov (O.t 3)))), (I.mk (some 2) none false (X.v (A.mov (O.t 17))))] []) AC.ret)
def A88_9 : AC := (AC.block 0 (AC.loop A88_1))
def A88_8 : AC := (AC.seq (AC.seq (AC.reg [] [(I.mk (some 6) none false (X.v (A.mov (O.t 0)))), (I.mk (some 7) none false (X.v (A.len (O.t 6)))), (I.mk (some 8) none false (X.v (A.mov (O.k (V.int IntKind.i64 (Int.ofNat 0))))))] []) A88_9) A88_6)
def A88_7 : AC := (AC.seq (AC.reg [] [(I.mk (some 3) none false (X.v (A.mov (O.k (V.int IntKind.i64 (Int.ofNat 0))))))] []) A88_8)
def A88 : AC := (AC.seq (AC.reg [] [(I.mk (some 2) none false (X.v (A.mov (O.k (V.int IntKind.i64 (Int.ofNat 0))))))] []) A88_7)
def an88 : List An := []
theorem c88 : cC Try.prog Try.f88.ntmps an88 (Try.f88.body.getD .skip) = some A88 := by kernel_rfl
structure H88 (D : Den) (σ : Sig) (F : Nat) : Prop where
  mk ::
abbrev R88 (r : Int) : (Nat → V) → Prop := RR Try.prog [.tmp 2] 0 false (Enc.enc (r : Int))
section
variable {D : Den} {σ : Sig} {F : Nat} {r : Int}
def i_maskOf_l1 (F : Nat) (list_1 : (List Int))  : Nat → Int → Int → Option Int
  | 0, _, _ => none
  | k + 1, set_4, t8_5 =>
    bif decide (t8_5 < (list_1.length : Int)) then
      (idx list_1 t8_5).bind fun e_8 =>
      (shlI .i64 1 e_8).bind fun q_9 =>
      (i_maskOf_l1 F list_1 k) (ior .i64 set_4 q_9) (w64 (t8_5 + 1))
    else
      some set_4
theorem t_f88_l1 (H : H88 D σ F) (list_1 : (List Int))  : ∀ (k : Nat) (set_4 : Int) (t8_5 : Int) (s : Nat → V), Facts [(2, (.int .i64 0)), (3, (.int .i64 set_4)), (6, (Enc.enc (list_1 : List Int))), (7, (.int .i64 (list_1.length : Int))), (8, (.int .i64 t8_5))] s → i_maskOf_l1 F list_1 k set_4 t8_5 = some r → Run D σ (R88 r) (.run A88_1 [.lp A88_1, .bk 0, .sq A88_6]) s := by
  intro k
  induction k with
  | zero => intro set_4 t8_5 s _ h; exact nomatch (h : (none : Option _) = some r)
  | succ k ih =>
    intro set_4 t8_5 s hs h
    rw [i_maskOf_l1] at h
    obtain ⟨h2, h3, h6, h7, h8⟩ := hs
    refine .seq ?_
    refine run_reg ?_
    refine e_end ?_
    refine g_v2 (t1 := 8) (t2 := 7) (u1 := (.int .i64 t8_5)) (u2 := (.int .i64 (list_1.length : Int))) (.bool (decide (t8_5 < (list_1.length : Int)))) h8 h7 rfl rfl ?_
    refine g_end ?_
    refine e_end ?_
    refine renew [(2, (.int .i64 0)), (3, (.int .i64 set_4)), (6, (Enc.enc (list_1 : List Int))), (7, (.int .i64 (list_1.length : Int))), (8, (.int .i64 t8_5)), (9, (.bool (decide (t8_5 < (list_1.length : Int)))))] ⟨h2, h3, h6, h7, h8, rfl⟩ ?_
    rintro s ⟨h2, h3, h6, h7, h8, h9⟩
    refine .nsq ?_
    refine .seq ?_
    refine run_cond (t := decide (t8_5 < (list_1.length : Int))) h9 h (fun h => ?_) (fun h => ?_)
    · refine .skip ?_
      refine .nsq ?_
      refine .seq ?_
      refine .block ?_
      refine .seq ?_
      refine run_reg ?_
      refine e_end ?_
      obtain ⟨e_8, E_e_8, h⟩ := bind_some h
      refine g_v (.ref .sh 0 [] (.int .i64 e_8)) (ev_idx (t := .sh) (lo := 0) (xs := list_1) h6 h8 E_e_8 rfl rfl) ?_
      refine g_v1 (t := 10) (u := (.ref .sh 0 [] (.int .i64 e_8))) (.int .i64 e_8) rfl rfl rfl ?_
      refine g_v1 (t := 11) (u := (.int .i64 e_8)) (.int .i64 e_8) rfl rfl rfl ?_
      refine g_end ?_
      refine e_end ?_
      refine renew [(2, (.int .i64 0)), (3, (.int .i64 set_4)), (5, (.int .i64 e_8)), (6, (Enc.enc (list_1 : List Int))), (7, (.int .i64 (list_1.length : Int))), (8, (.int .i64 t8_5))] ⟨h2, h3, rfl, h6, h7, h8⟩ ?_
      rintro s ⟨h2, h3, h5, h6, h7, h8⟩
      refine .nsq ?_
      refine run_reg ?_
      refine e_end ?_
      refine g_v1 (t := 3) (u := (.int .i64 set_4)) (.int .i64 set_4) h3 rfl rfl ?_
      refine g_v1 (t := 5) (u := (.int .i64 e_8)) (.int .i64 e_8) h5 rfl rfl ?_
      obtain ⟨q_9, E_q_9, h⟩ := bind_some h
      refine g_v (.int .i64 q_9) (ev_shl rfl rfl E_q_9) ?_
      refine g_v2 (t1 := 12) (t2 := 14) (u1 := (.int .i64 set_4)) (u2 := (.int .i64 q_9)) (.int .i64 (ior .i64 set_4 q_9)) rfl rfl rfl rfl ?_
      refine g_v1 (t := 15) (u := (.int .i64 (ior .i64 set_4 q_9))) (.int .i64 (ior .i64 set_4 q_9)) rfl rfl rfl ?_
      refine g_end ?_
      refine e_end ?_
      refine renew [(2, (.int .i64 0)), (3, (.int .i64 (ior .i64 set_4 q_9))), (6, (Enc.enc (list_1 : List Int))), (7, (.int .i64 (list_1.length : Int))), (8, (.int .i64 t8_5))] ⟨h2, rfl, h6, h7, h8⟩ ?_
      rintro s ⟨h2, h3, h6, h7, h8⟩
      refine .nbk ?_
      refine .nsq ?_
      refine run_reg ?_
      refine e_end ?_
      refine g_v1 (t := 8) (u := (.int .i64 t8_5)) (.int .i64 (w64 (t8_5 + 1))) h8 rfl rfl ?_
      refine g_v1 (t := 16) (u := (.int .i64 (w64 (t8_5 + 1)))) (.int .i64 (w64 (t8_5 + 1))) rfl rfl rfl ?_
      refine g_end ?_
      refine e_end ?_
      refine renew [(2, (.int .i64 0)), (3, (.int .i64 (ior .i64 set_4 q_9))), (6, (Enc.enc (list_1 : List Int))), (7, (.int .i64 (list_1.length : Int))), (8, (.int .i64 (w64 (t8_5 + 1))))] ⟨h2, h3, h6, h7, rfl⟩ ?_
      rintro s ⟨h2, h3, h6, h7, h8⟩
      refine .nlp ?_
      exact ih (ior .i64 set_4 q_9) (w64 (t8_5 + 1)) _ ⟨h2, h3, h6, h7, h8⟩ h
    · refine .exit ?_
      refine .esq ?_
      refine .elp ?_
      refine .ebk ?_
      refine .nsq ?_
      refine .seq ?_
      refine run_reg ?_
      refine e_end ?_
      refine g_v1 (t := 3) (u := (.int .i64 set_4)) (.int .i64 set_4) h3 rfl rfl ?_
      refine g_v1 (t := 17) (u := (.int .i64 set_4)) (.int .i64 set_4) rfl rfl rfl ?_
      refine g_end ?_
      refine e_end ?_
      refine renew [(2, (.int .i64 set_4))] rfl ?_
      rintro s h2
      refine .nsq ?_
      refine .ret ?_
      have hr := Option.some.inj h
      subst hr
      exact rrA (res_tmp h2) rfl
def i_maskOf (F : Nat) (list_1 : (List Int)) : Option Int :=
  i_maskOf_l1 F list_1 F 0 0
theorem t88 (H : H88 D σ F) (list_1 : (List Int)) (s : Nat → V) (hs : Facts [(0, (Enc.enc (list_1 : List Int)))] s) (h : i_maskOf F list_1 = some r) : Run D σ (R88 r) (.run A88 []) s := by
  unfold i_maskOf at h
  have h0 := hs
  refine .seq ?_
  refine run_reg ?_
  refine e_end ?_
  refine g_v0 (.int .i64 0) rfl rfl ?_
  refine g_end ?_
  refine e_end ?_
  refine renew [(0, (Enc.enc (list_1 : List Int))), (2, (.int .i64 0))] ⟨h0, rfl⟩ ?_
  rintro s ⟨h0, h2⟩
  refine .nsq ?_
  refine .seq ?_
  refine run_reg ?_
  refine e_end ?_
  refine g_v0 (.int .i64 0) rfl rfl ?_
  refine g_end ?_
  refine e_end ?_
  refine renew [(0, (Enc.enc (list_1 : List Int))), (2, (.int .i64 0)), (3, (.int .i64 0))] ⟨h0, h2, rfl⟩ ?_
  rintro s ⟨h0, h2, h3⟩
  refine .nsq ?_
  refine .seq ?_
  refine .seq ?_
  refine run_reg ?_
  refine e_end ?_
  refine g_v1 (t := 0) (u := (Enc.enc (list_1 : List Int))) (Enc.enc (list_1 : List Int)) h0 rfl rfl ?_
  refine g_v (.int .i64 (list_1.length : Int)) (ev_len (xs := list_1) rfl) ?_
  refine g_v0 (.int .i64 0) rfl rfl ?_
  refine g_end ?_
  refine e_end ?_
  refine renew [(2, (.int .i64 0)), (3, (.int .i64 0)), (6, (Enc.enc (list_1 : List Int))), (7, (.int .i64 (list_1.length : Int))), (8, (.int .i64 0))] ⟨h2, h3, rfl, rfl, rfl⟩ ?_
  rintro s ⟨h2, h3, h6, h7, h8⟩
  refine .nsq ?_
  refine .block ?_
  refine .loop ?_
  exact t_f88_l1 H list_1 F 0 0 _ ⟨h2, h3, h6, h7, h8⟩ h
end
def e88 (F : Nat) : Ent := ⟨88, da (fun (x : ((List Int) × Unit)) => i_maskOf F x.1) (fun (r : Int) => (Enc.enc (r : Int))), 0, false, selF []⟩
theorem p88 {F : Nat} {x0 : (List Int)} {r : Int} (h : i_maskOf F x0 = some r) : (e88 F).den [Enc.enc x0] = some (Enc.enc (r : Int)) := da_put (f := fun (x : ((List Int) × Unit)) => i_maskOf F x.1) (t := fun (r : Int) => (Enc.enc (r : Int))) (x0, ()) h
theorem o88 {D : Den} {σ : Sig} {F : Nat} (hF : Fits2 Try.prog D σ) (H : H88 D σ F) : (e88 F).Ok Try.prog := by
  refine ok_of (f := 88) (show unk 88 = 88 from rfl) (fun args r h => ?_) ⟨Try.f88, Try.func88, rfl, rfl⟩
  obtain ⟨⟨x0, _⟩, y, rfl, hy, rfl⟩ := da_open h
  exact contract_run hF (by kernel_rfl) Try.func88 rfl c88 (show 1 ≤ Try.f88.ntmps by decide) (t88 H x0 _ rfl hy)
/- loop.example/g01109/impl.isOrder -/
def A60_1 : AC := (AC.seq (AC.reg [] [(I.mk (some 5) none false (X.v (A.mov (O.t 1)))), (I.mk (some 6) none false (X.v (A.len (O.t 5)))), (I.mk (some 7) none false (X.v (A.fld (O.t 2) 0 0))), (I.mk (some 8) none false (X.v (A.load Sh.s (O.t 7)))), (I.mk (some 9) none false (X.v (A.bin BinOp.eql (O.t 6) (O.t 8)))), (I.mk (some 10) none false (X.v (A.mov (O.t 9)))), (I.mk (some 11) (some (10, true)) false (X.v (A.mov (O.t 1)))), (I.mk (some 12) (some (10, true)) false (X.v (A.fld (O.t 2) 0 0))), (I.mk (some 13) (some (10, true)) false (X.v (A.load Sh.s (O.t 12)))), (I.mk (some 14) (some (10, true)) false (X.v (A.bin BinOp.sub (O.t 13) (O.k (V.int IntKind.i64 (Int.ofNat 1)))))), (I.mk (some 15) (some (10, true)) false (X.call (O.k (V.fn 101 [] [])) [(O.t 11), (O.k (V.int IntKind.i64 (Int.ofNat 0))), (O.t 14)])), (I.mk (some 16) none false (X.v (A.pick (O.t 10) (O.t 15) (O.k (V.bool false))))), (I.mk (some 17) none false (X.v (A.mov (O.t 16)))), (I.mk (some 18) (some (17, true)) false (X.v (A.mov (O.t 1)))), (I.mk (some 19) (some (17, true)) false (X.call (O.k (V.fn 88 [] [])) [(O.t 18)])), (I.mk (some 20) (some (17, true)) false (X.v (A.fld (O.t 2) 0 0))), (I.mk (some 21) (some (17, true)) false (X.v (A.load Sh.s (O.t 20)))), (I.mk (some 22) (some (17, true)) false (X.v (A.bin BinOp.shl (O.k (V.int IntKind.i64 (Int.ofNat 1))) (O.t 21)))), (I.mk (some 23) (some (17, true)) false (X.v (A.bin BinOp.sub (O.t 22) (O.k (V.int IntKind.i64 (Int.ofNat 1)))))), (I.mk (some 24) (some (17, true)) false (X.v (A.bin BinOp.eql (O.t 19) (O.t 23)))), (I.mk (some 25) none false (X.v (A.pick (O.t 17) (O.t 24) (O.k (V.bool false))))), (I.mk (some 4) none false (X.v (A.mov (O.t 25))))] []) AC.ret)
def A60 : AC := (AC.seq (AC.reg [.clr [2]] [(I.mk (some 2) none false (X.box (O.t 0))), (I.mk (some 4) none false (X.v (A.mov (O.k (V.bool false)))))] []) A60_1)
def an60 : List An := [{ id := 0, pre := [.clr [2]], ep := [], lin := [], sp := [] }]
theorem c60 : cC Try.prog Try.f60.ntmps an60 (Try.f60.body.getD .skip) = some A60 := by kernel_rfl
structure H60 (D : Den) (σ : Sig) (F : Nat) : Prop where
  c101 : ∀ (x0 : (List Int)) (x1 : Int) (x2 : Int) r, i_allWithin F x0 x1 x2 = some r → D 101 [Enc.enc x0, Enc.enc x1, Enc.enc x2] = some (Enc.enc (r : Bool))
  g101 : σ 101 = some (0, false)
  c88 : ∀ (x0 : (List Int)) r, i_maskOf F x0 = some r → D 88 [Enc.enc x0] = some (Enc.enc (r : Int))
  g88 : σ 88 = some (0, false)
abbrev R60 (r : Bool) : (Nat → V) → Prop := RR Try.prog [.tmp 4] 0 false (Enc.enc (r : Bool))
section
variable {D : Den} {σ : Sig} {F : Nat} {r : Bool}
def i_isOrder (F : Nat) (g_1 : (Int × (List (Int × Int)))) (list_2 : (List Int)) : Option Bool :=
  bif ((list_2.length : Int) == g_1.1) then
    (i_allWithin F list_2 0 (w64 (g_1.1 - 1))).bind fun r_3 =>
    bif r_3 then
      (i_maskOf F list_2).bind fun r_4 =>
      (shlI .i64 1 g_1.1).bind fun q_5 =>
      some (r_4 == (w64 (q_5 - 1)))
    else
      some false
  else
    some false
theorem t60 (H : H60 D σ F) (g_1 : (Int × (List (Int × Int)))) (list_2 : (List Int)) (s : Nat → V) (hs : Facts [(0, (.agg [(.int .i64 g_1.1), (Enc.enc (g_1.2 : List (Int × Int)))])), (1, (Enc.enc (list_2 : List Int)))] s) (h : i_isOrder F g_1 list_2 = some r) : Run D σ (R60 r) (.run A60 []) s := by
  unfold i_isOrder at h
  obtain ⟨h0, h1⟩ := hs
  refine .seq ?_
  refine run_reg ?_
  refine e_clr ?_
  refine e_end ?_
  refine g_box (.agg [(.int .i64 g_1.1), (Enc.enc (g_1.2 : List (Int × Int)))]) (rd_of (keep_clear (s := s) (pk := [2]) h0 rfl (map_agg (maps_cons rfl (maps_cons (Enc.map_enc _ (g_1.2 : List (Int × Int))) maps_nil)))) rfl) (gone_clear (s := s) (pk := [2]) (t := 2) rfl) rfl ?_
  refine g_v0 (.bool false) rfl rfl ?_
  refine g_end ?_
  refine e_end ?_
  refine renew [(1, (Enc.enc (list_2 : List Int))), (2, (.ref (.bx 2) 0 [] (.agg [(.int .i64 g_1.1), (Enc.enc (g_1.2 : List (Int × Int)))]))), (4, (.bool false))] ⟨(keep_clear (s := s) (pk := [2]) h1 rfl (Enc.map_enc _ (list_2 : List Int))), rfl, rfl⟩ ?_
  rintro s ⟨h1, h2, h4⟩
  refine .nsq ?_
  refine .seq ?_
  refine run_reg ?_
  refine e_end ?_
  refine g_v1 (t := 1) (u := (Enc.enc (list_2 : List Int))) (Enc.enc (list_2 : List Int)) h1 rfl rfl ?_
  refine g_v (.int .i64 (list_2.length : Int)) (ev_len (xs := list_2) rfl) ?_
  refine g_v1 (t := 2) (u := (.ref (.bx 2) 0 [] (.agg [(.int .i64 g_1.1), (Enc.enc (g_1.2 : List (Int × Int)))]))) (.ref (.bx 2) 0 [0] (.int .i64 g_1.1)) h2 rfl rfl ?_
  refine g_v1 (t := 7) (u := (.ref (.bx 2) 0 [0] (.int .i64 g_1.1))) (.int .i64 g_1.1) rfl rfl rfl ?_
  refine g_v2 (t1 := 6) (t2 := 8) (u1 := (.int .i64 (list_2.length : Int))) (u2 := (.int .i64 g_1.1)) (.bool ((list_2.length : Int) == g_1.1)) rfl rfl rfl rfl ?_
  refine g_v1 (t := 9) (u := (.bool ((list_2.length : Int) == g_1.1))) (.bool ((list_2.length : Int) == g_1.1)) rfl rfl rfl ?_
  refine split_on (c := ((list_2.length : Int) == g_1.1)) h (fun hg6 h => ?_) (fun hg6 h => ?_)
  · refine g_yes (Eq.trans (b := .bool ((list_2.length : Int) == g_1.1)) rfl (congrArg V.bool hg6)) (g_v1 (t := 1) (u := (Enc.enc (list_2 : List Int))) (Enc.enc (list_2 : List Int)) h1 rfl rfl ?_)
    refine g_yes (Eq.trans (b := .bool ((list_2.length : Int) == g_1.1)) rfl (congrArg V.bool hg6)) (g_v1 (t := 2) (u := (.ref (.bx 2) 0 [] (.agg [(.int .i64 g_1.1), (Enc.enc (g_1.2 : List (Int × Int)))]))) (.ref (.bx 2) 0 [0] (.int .i64 g_1.1)) h2 rfl rfl ?_)
    refine g_yes (Eq.trans (b := .bool ((list_2.length : Int) == g_1.1)) rfl (congrArg V.bool hg6)) (g_v1 (t := 12) (u := (.ref (.bx 2) 0 [0] (.int .i64 g_1.1))) (.int .i64 g_1.1) rfl rfl rfl ?_)
    refine g_yes (Eq.trans (b := .bool ((list_2.length : Int) == g_1.1)) rfl (congrArg V.bool hg6)) (g_v1 (t := 13) (u := (.int .i64 g_1.1)) (.int .i64 (w64 (g_1.1 - 1))) rfl rfl rfl ?_)
    obtain ⟨r_3, E_r_3, h⟩ := bind_some h
    refine g_yes (Eq.trans (b := .bool ((list_2.length : Int) == g_1.1)) rfl (congrArg V.bool hg6)) (g_call (m := 0) (al := false) (r := (Enc.enc (r_3 : Bool))) [Enc.enc (list_2 : (List Int)), Enc.enc (0 : Int), Enc.enc (w64 (g_1.1 - 1) : Int)] (ta_cons (v := (Enc.enc (list_2 : List Int))) rfl rfl (Enc.erase_enc (list_2 : (List Int))) (ta_cons (v := (.int .i64 0)) rfl rfl rfl (ta_cons (v := (.int .i64 (w64 (g_1.1 - 1)))) rfl rfl rfl ta_nil))) (H.c101 _ _ _ _ E_r_3) H.g101 rfl rfl rfl rfl ?_)
    refine g_v2 (t1 := 10) (t2 := 15) (u1 := (.bool true)) (u2 := (.bool r_3)) (.bool r_3) (Eq.trans (b := .bool ((list_2.length : Int) == g_1.1)) rfl (congrArg V.bool hg6)) rfl rfl rfl ?_
    refine g_v1 (t := 16) (u := (.bool r_3)) (.bool r_3) rfl rfl rfl ?_
    refine split_on (c := r_3) h (fun hg13 h => ?_) (fun hg13 h => ?_)
    · refine g_yes (Eq.trans (b := .bool r_3) rfl (congrArg V.bool hg13)) (g_v1 (t := 1) (u := (Enc.enc (list_2 : List Int))) (Enc.enc (list_2 : List Int)) h1 rfl rfl ?_)
      obtain ⟨r_4, E_r_4, h⟩ := bind_some h
      refine g_yes (Eq.trans (b := .bool r_3) rfl (congrArg V.bool hg13)) (g_call (m := 0) (al := false) (r := (Enc.enc (r_4 : Int))) [Enc.enc (list_2 : (List Int))] (ta_cons (v := (Enc.enc (list_2 : List Int))) rfl rfl (Enc.erase_enc (list_2 : (List Int))) ta_nil) (H.c88 _ _ E_r_4) H.g88 rfl rfl rfl rfl ?_)
      refine g_yes (Eq.trans (b := .bool r_3) rfl (congrArg V.bool hg13)) (g_v1 (t := 2) (u := (.ref (.bx 2) 0 [] (.agg [(.int .i64 g_1.1), (Enc.enc (g_1.2 : List (Int × Int)))]))) (.ref (.bx 2) 0 [0] (.int .i64 g_1.1)) h2 rfl rfl ?_)
      refine g_yes (Eq.trans (b := .bool r_3) rfl (congrArg V.bool hg13)) (g_v1 (t := 20) (u := (.ref (.bx 2) 0 [0] (.int .i64 g_1.1))) (.int .i64 g_1.1) rfl rfl rfl ?_)
      obtain ⟨q_5, E_q_5, h⟩ := bind_some h
      refine g_yes (Eq.trans (b := .bool r_3) rfl (congrArg V.bool hg13)) (g_v (.int .i64 q_5) (ev_shl rfl rfl E_q_5) ?_)
      refine g_yes (Eq.trans (b := .bool r_3) rfl (congrArg V.bool hg13)) (g_v1 (t := 22) (u := (.int .i64 q_5)) (.int .i64 (w64 (q_5 - 1))) rfl rfl rfl ?_)
      refine g_yes (Eq.trans (b := .bool r_3) rfl (congrArg V.bool hg13)) (g_v2 (t1 := 19) (t2 := 23) (u1 := (.int .i64 r_4)) (u2 := (.int .i64 (w64 (q_5 - 1)))) (.bool (r_4 == (w64 (q_5 - 1)))) rfl rfl rfl rfl ?_)
      refine g_v2 (t1 := 17) (t2 := 24) (u1 := (.bool true)) (u2 := (.bool (r_4 == (w64 (q_5 - 1))))) (.bool (r_4 == (w64 (q_5 - 1)))) (Eq.trans (b := .bool r_3) rfl (congrArg V.bool hg13)) rfl rfl rfl ?_
      refine g_v1 (t := 25) (u := (.bool (r_4 == (w64 (q_5 - 1))))) (.bool (r_4 == (w64 (q_5 - 1)))) rfl rfl rfl ?_
      refine g_end ?_
      refine e_end ?_
      refine renew [(4, (.bool (r_4 == (w64 (q_5 - 1)))))] rfl ?_
      rintro s h4
      refine .nsq ?_
      refine .ret ?_
      have hr := Option.some.inj h
      subst hr
      exact rrA (res_tmp h4) rfl
    · refine g_no (Eq.trans (b := .bool r_3) rfl (congrArg V.bool hg13)) ?_
      refine g_no (Eq.trans (b := .bool r_3) rfl (congrArg V.bool hg13)) ?_
      refine g_no (Eq.trans (b := .bool r_3) rfl (congrArg V.bool hg13)) ?_
      refine g_no (Eq.trans (b := .bool r_3) rfl (congrArg V.bool hg13)) ?_
      refine g_no (Eq.trans (b := .bool r_3) rfl (congrArg V.bool hg13)) ?_
      refine g_no (Eq.trans (b := .bool r_3) rfl (congrArg V.bool hg13)) ?_
      refine g_no (Eq.trans (b := .bool r_3) rfl (congrArg V.bool hg13)) ?_
      refine g_v2 (t1 := 17) (t2 := 24) (u1 := (.bool false)) (u2 := (.tup [])) (.bool false) (Eq.trans (b := .bool r_3) rfl (congrArg V.bool hg13)) rfl rfl rfl ?_
      refine g_v1 (t := 25) (u := (.bool false)) (.bool false) rfl rfl rfl ?_
      refine g_end ?_
      refine e_end ?_
      refine renew [(4, (.bool false))] rfl ?_
      rintro s h4
      refine .nsq ?_
      refine .ret ?_
      have hr := Option.some.inj h
      subst hr
      exact rrA (res_tmp h4) rfl
  · refine g_no (Eq.trans (b := .bool ((list_2.length : Int) == g_1.1)) rfl (congrArg V.bool hg6)) ?_
    refine g_no (Eq.trans (b := .bool ((list_2.length : Int) == g_1.1)) rfl (congrArg V.bool hg6)) ?_
    refine g_no (Eq.trans (b := .bool ((list_2.length : Int) == g_1.1)) rfl (congrArg V.bool hg6)) ?_
    refine g_no (Eq.trans (b := .bool ((list_2.length : Int) == g_1.1)) rfl (congrArg V.bool hg6)) ?_
    refine g_no (Eq.trans (b := .bool ((list_2.length : Int) == g_1.1)) rfl (congrArg V.bool hg6)) ?_
    refine g_v2 (t1 := 10) (t2 := 15) (u1 := (.bool false)) (u2 := (.tup [])) (.bool false) (Eq.trans (b := .bool ((list_2.length : Int) == g_1.1)) rfl (congrArg V.bool hg6)) rfl rfl rfl ?_
    refine g_v1 (t := 16) (u := (.bool false)) (.bool false) rfl rfl rfl ?_
    refine g_no rfl ?_
    refine g_no rfl ?_
    refine g_no rfl ?_
    refine g_no rfl ?_
    refine g_no rfl ?_
    refine g_no rfl ?_
    refine g_no rfl ?_
    refine g_v2 (t1 := 17) (t2 := 24) (u1 := (.bool false)) (u2 := (.tup [])) (.bool false) rfl rfl rfl rfl ?_
    refine g_v1 (t := 25) (u := (.bool false)) (.bool false) rfl rfl rfl ?_
    refine g_end ?_
    refine e_end ?_
    refine renew [(4, (.bool false))] rfl ?_
    rintro s h4
    refine .nsq ?_
    refine .ret ?_
    have hr := Option.some.inj h
    subst hr
    exact rrA (res_tmp h4) rfl
end
def e60 (F : Nat) : Ent := ⟨60, da (fun (x : ((Int × (List (Int × Int))) × (List Int) × Unit)) => i_isOrder F x.1 x.2.1) (fun (r : Bool) => (Enc.enc (r : Bool))), 0, false, selF []⟩
theorem p60 {F : Nat} {x0 : (Int × (List (Int × Int)))} {x1 : (List Int)} {r : Bool} (h : i_isOrder F x0 x1 = some r) : (e60 F).den [Enc.enc x0, Enc.enc x1] = some (Enc.enc (r : Bool)) := da_put (f := fun (x : ((Int × (List (Int × Int))) × (List Int) × Unit)) => i_isOrder F x.1 x.2.1) (t := fun (r : Bool) => (Enc.enc (r : Bool))) (x0, x1, ()) h
theorem o60 {D : Den} {σ : Sig} {F : Nat} (hF : Fits2 Try.prog D σ) (H : H60 D σ F) : (e60 F).Ok Try.prog := by
  refine ok_of (f := 60) (show unk 60 = 60 from rfl) (fun args r h => ?_) ⟨Try.f60, Try.func60, rfl, rfl⟩
  obtain ⟨⟨x0, x1, _⟩, y, rfl, hy, rfl⟩ := da_open h
  exact contract_run hF (by kernel_rfl) Try.func60 rfl c60 (show 2 ≤ Try.f60.ntmps by decide) (t60 H x0 x1 _ ⟨rfl, rfl⟩ hy)
/- loop.example/g01109/impl.netOf -/
def A55_5 : AC := (AC.reg [] [(I.mk (some 28) none false (X.v (A.fld (O.t 3) 0 0))), (I.mk (some 29) none false (X.v (A.load Sh.p (O.t 28)))), (I.mk (some 30) none false (X.v (A.idxA (O.t 5) (O.k (V.int IntKind.i64 (Int.ofNat 1))) 2 1))), (I.mk (some 31) none false (X.v (A.load Sh.s (O.t 30)))), (I.mk (some 32) none false (X.v (A.idx (O.t 29) (O.t 31) 1))), (I.mk (some 33) none false (X.v (A.load Sh.s (O.t 32)))), (I.mk (some 34) none false (X.v (A.idxA (O.t 5) (O.k (V.int IntKind.i64 (Int.ofNat 0))) 2 1))), (I.mk (some 35) none false (X.v (A.load Sh.s (O.t 34)))), (I.mk (some 36) none false (X.v (A.bin BinOp.shl (O.k (V.int IntKind.i64 (Int.ofNat 1))) (O.t 35)))), (I.mk (some 37) none false (X.v (A.bin BinOp.or (O.t 33) (O.t 36)))), (I.mk (some 38) none false (X.v (A.idx (O.t 29) (O.t 31) 1))), (I.mk none none false (X.store Sh.s (O.t 38) (O.t 37)))] [])
def A55_4 : AC := (AC.seq (AC.reg [] [(I.mk (some 17) none false (X.v (A.fld (O.t 3) 0 0))), (I.mk (some 18) none false (X.v (A.load Sh.p (O.t 17)))), (I.mk (some 19) none false (X.v (A.idxA (O.t 5) (O.k (V.int IntKind.i64 (Int.ofNat 0))) 2 1))), (I.mk (some 20) none false (X.v (A.load Sh.s (O.t 19)))), (I.mk (some 21) none false (X.v (A.idx (O.t 18) (O.t 20) 1))), (I.mk (some 22) none false (X.v (A.load Sh.s (O.t 21)))), (I.mk (some 23) none false (X.v (A.idxA (O.t 5) (O.k (V.int IntKind.i64 (Int.ofNat 1))) 2 1))), (I.mk (some 24) none false (X.v (A.load Sh.s (O.t 23)))), (I.mk (some 25) none false (X.v (A.bin BinOp.shl (O.k (V.int IntKind.i64 (Int.ofNat 1))) (O.t 24)))), (I.mk (some 26) none false (X.v (A.bin BinOp.or (O.t 22) (O.t 25)))), (I.mk (some 27) none false (X.v (A.idx (O.t 18) (O.t 20) 1))), (I.mk none none false (X.store Sh.s (O.t 27) (O.t 26)))] []) A55_5)
def A55_6 : AC := (AC.reg [] [(I.mk (some 39) none false (X.v (A.bin BinOp.add (O.t 13) (O.k (V.int IntKind.i64 (Int.ofNat 1)))))), (I.mk (some 13) none false (X.v (A.mov (O.t 39))))] [])
def A55_3 : AC := (AC.seq (AC.block 1 (AC.seq (AC.reg [.clr [5]] [(I.mk (some 15) none false (X.v (A.idx (O.t 11) (O.t 13) 2))), (I.mk (some 16) none false (X.v (A.load (Sh.ag [Sh.s, Sh.s]) (O.t 15)))), (I.mk (some 5) none false (X.alloc (V.agg [(V.int IntKind.i64 (Int.ofNat 0)), (V.int IntKind.i64 (Int.ofNat 0))]))), (I.mk none none false (X.store (Sh.ag [Sh.s, Sh.s]) (O.t 5) (O.t 16)))] []) A55_4)) A55_6)
def A55_2 : AC := (AC.seq (AC.cond (O.t 14) AC.skip (AC.exit 0)) A55_3)
def A55_1 : AC := (AC.seq (AC.reg [] [(I.mk (some 14) none false (X.v (A.bin BinOp.lss (O.t 13) (O.t 12))))] []) A55_2)
def A55_7 : AC := (AC.seq (AC.reg [] [(I.mk (some 40) none false (X.v (A.load (Sh.ag [Sh.p]) (O.t 3)))), (I.mk none none false (X.store (Sh.ag [Sh.p]) (O.t 2) (O.t 40)))] []) AC.ret)
def A55_10 : AC := (AC.block 0 (AC.loop A55_1))
def A55_9 : AC := (AC.seq (AC.seq (AC.reg [] [(I.mk (some 10) none false (X.v (A.fld (O.t 1) 1 1))), (I.mk (some 11) none false (X.v (A.load Sh.p (O.t 10)))), (I.mk (some 12) none false (X.v (A.len (O.t 11)))), (I.mk (some 13) none false (X.v (A.mov (O.k (V.int IntKind.i64 (Int.ofNat 0))))))] []) A55_10) A55_7)
def A55_8 : AC := (AC.seq (AC.reg [.clr [8, 3]] [(I.mk (some 6) none false (X.v (A.fld (O.t 1) 0 0))), (I.mk (some 7) none false (X.v (A.load Sh.s (O.t 6)))), (I.mk (some 8) none false (X.mk (O.t 7) (V.int IntKind.i64 (Int.ofNat 0)))), (I.mk (some 9) none false (X.v (A.bld (V.agg [(V.sl Tok.nl Sh.s 0 [])]) [(0, 0, (O.t 8))]))), (I.mk (some 3) none false (X.alloc (V.agg [(V.sl Tok.nl Sh.s 0 [])]))), (I.mk none none false (X.store (Sh.ag [Sh.p]) (O.t 3) (O.t 9)))] []) A55_9)
def A55 : AC := (AC.seq (AC.reg [.clr [1, 2]] [(I.mk (some 1) none false (X.box (O.t 0))), (I.mk (some 2) none false (X.alloc (V.agg [(V.sl Tok.nl Sh.s 0 [])])))] []) A55_8)
def an55 : List An := [{ id := 0, pre := [.clr [1, 2]], ep := [], lin := [], sp := [] }, { id := 1, pre := [.clr [8, 3]], ep := [], lin := [], sp := [] }, { id := 4, pre := [.clr [5]], ep := [], lin := [], sp := [] }]
theorem c55 : cC Try.prog Try.f55.ntmps an55 (Try.f55.body.getD .skip) = some A55 := by kernel_rfl
structure H55 (D : Den) (σ : Sig) (F : Nat) : Prop where
  mk ::
abbrev R55 (r : (S1 (List Int))) : (Nat → V) → Prop := RR Try.prog [.cell 2 56] 0 false (Enc.enc (r : (S1 (List Int))))
section
variable {D : Den} {σ : Sig} {F : Nat} {r : (S1 (List Int))}
def i_netOf_l1 (F : Nat) (g_1 : (Int × (List (Int × Int))))  : Nat → (List Int) → Int → Option (S1 (List Int))
  | 0, _, _ => none
  | k + 1, w_10, t13_11 =>
    bif decide (t13_11 < (g_1.2.length : Int)) then
      (idx g_1.2 t13_11).bind fun e_19 =>
      (idx w_10 e_19.1).bind fun e_20 =>
      (shlI .i64 1 e_19.2).bind fun q_21 =>
      (idx w_10 e_19.1).bind fun e_22 =>
      (idx (w_10.set e_19.1.toNat (ior .i64 e_20 q_21)) e_19.2).bind fun e_23 =>
      (shlI .i64 1 e_19.1).bind fun q_24 =>
      (idx (w_10.set e_19.1.toNat (ior .i64 e_20 q_21)) e_19.2).bind fun e_25 =>
      (i_netOf_l1 F g_1 k) ((w_10.set e_19.1.toNat (ior .i64 e_20 q_21)).set e_19.2.toNat (ior .i64 e_23 q_24)) (w64 (t13_11 + 1))
    else
      some (S1.mk w_10)
theorem t_f55_l1 (H : H55 D σ F) (g_1 : (Int × (List (Int × Int))))  : ∀ (k : Nat) (w_10 : (List Int)) (t13_11 : Int) (s : Nat → V), Facts [(2, (.ref (.bx 2) 0 [] (.agg [(.sl .nl (Enc.shp Int) 0 [])]))), (3, (.ref (.bx 3) 0 [] (.agg [(encO (.at 8 []) (.of (w_10 : List Int)))]))), (11, (Enc.enc (g_1.2 : List (Int × Int)))), (12, (.int .i64 (g_1.2.length : Int))), (13, (.int .i64 t13_11))] s → i_netOf_l1 F g_1 k w_10 t13_11 = some r → Run D σ (R55 r) (.run A55_1 [.lp A55_1, .bk 0, .sq A55_7]) s := by
  intro k
  induction k with
  | zero => intro w_10 t13_11 s _ h; exact nomatch (h : (none : Option _) = some r)
  | succ k ih =>
    intro w_10 t13_11 s hs h
    rw [i_netOf_l1] at h
    obtain ⟨h2, h3, h11, h12, h13⟩ := hs
    refine .seq ?_
    refine run_reg ?_
    refine e_end ?_
    refine g_v2 (t1 := 13) (t2 := 12) (u1 := (.int .i64 t13_11)) (u2 := (.int .i64 (g_1.2.length : Int))) (.bool (decide (t13_11 < (g_1.2.length : Int)))) h13 h12 rfl rfl ?_
    refine g_end ?_
    refine e_end ?_
    refine renew [(2, (.ref (.bx 2) 0 [] (.agg [(.sl .nl (Enc.shp Int) 0 [])]))), (3, (.ref (.bx 3) 0 [] (.agg [(encO (.at 8 []) (.of (w_10 : List Int)))]))), (11, (Enc.enc (g_1.2 : List (Int × Int)))), (12, (.int .i64 (g_1.2.length : Int))), (13, (.int .i64 t13_11)), (14, (.bool (decide (t13_11 < (g_1.2.length : Int)))))] ⟨h2, h3, h11, h12, h13, rfl⟩ ?_
    rintro s ⟨h2, h3, h11, h12, h13, h14⟩
    refine .nsq ?_
    refine .seq ?_
    refine run_cond (t := decide (t13_11 < (g_1.2.length : Int))) h14 h (fun h => ?_) (fun h => ?_)
    · refine .skip ?_
      refine .nsq ?_
      refine .seq ?_
      refine .block ?_
      refine .seq ?_
      refine run_reg ?_
      refine e_clr ?_
      refine e_end ?_
      obtain ⟨e_19, E_e_19, h⟩ := bind_some h
      refine g_v (.ref .sh 0 [] (.agg [(.int .i64 e_19.1), (.int .i64 e_19.2)])) (ev_idx (t := .sh) (lo := 0) (xs := g_1.2) (keep_clear (s := s) (pk := [5]) h11 rfl (Enc.map_enc _ (g_1.2 : List (Int × Int)))) (keep_clear (s := s) (pk := [5]) h13 rfl rfl) E_e_19 rfl rfl) ?_
      refine g_v1 (t := 15) (u := (.ref .sh 0 [] (.agg [(.int .i64 e_19.1), (.int .i64 e_19.2)]))) (.agg [(.int .i64 e_19.1), (.int .i64 e_19.2)]) rfl rfl rfl ?_
      refine g_alloc (gone_clear (s := s) (pk := [5]) (t := 5) rfl) ?_
      refine g_store (.agg [(.int .i64 e_19.1), (.int .i64 e_19.2)]) (rd_of rfl rfl) (rd_of rfl rfl) (by refine ⟨by decide, by decide, rfl, rfl, rfl, ?_⟩; first | rfl | simp [V.toks, V.tokss, Enc.toks_enc]) ?_
      refine g_end ?_
      refine e_end ?_
      refine renew [(2, (.ref (.bx 2) 0 [] (.agg [(.sl .nl (Enc.shp Int) 0 [])]))), (3, (.ref (.bx 3) 0 [] (.agg [(encO (.at 8 []) (.of (w_10 : List Int)))]))), (5, (.ref (.bx 5) 0 [] (.agg [(.int .i64 e_19.1), (.int .i64 e_19.2)]))), (11, (Enc.enc (g_1.2 : List (Int × Int)))), (12, (.int .i64 (g_1.2.length : Int))), (13, (.int .i64 t13_11))] ⟨(keep_mut (keep_clear (s := s) (pk := [5]) h2 rfl (map_bx rfl (map_agg (maps_cons rfl maps_nil)))) (mut_ref_ne rfl rfl (mut_agg (muts_cons rfl rfl)))), (keep_mut (keep_clear (s := s) (pk := [5]) h3 rfl (map_bx rfl (map_agg (maps_cons (map_encO (r := 8) (p := []) rfl rfl) maps_nil)))) (mut_ref_ne rfl rfl (mut_agg (muts_cons (mut_own_ne rfl rfl) rfl)))), (keep_mut rfl rfl), (keep_mut (keep_clear (s := s) (pk := [5]) h11 rfl (Enc.map_enc _ (g_1.2 : List (Int × Int)))) (Enc.mut_enc _ _ _ _ (g_1.2 : List (Int × Int)))), (keep_mut (keep_clear (s := s) (pk := [5]) h12 rfl rfl) rfl), (keep_mut (keep_clear (s := s) (pk := [5]) h13 rfl rfl) rfl)⟩ ?_
      rintro s ⟨h2, h3, h5, h11, h12, h13⟩
      refine .nsq ?_
      refine .seq ?_
      refine run_reg ?_
      refine e_end ?_
      refine g_v1 (t := 3) (u := (.ref (.bx 3) 0 [] (.agg [(encO (.at 8 []) (.of (w_10 : List Int)))]))) (.ref (.bx 3) 0 [0] (encO (.at 8 []) (.of (w_10 : List Int)))) h3 rfl rfl ?_
      refine g_v1 (t := 17) (u := (.ref (.bx 3) 0 [0] (encO (.at 8 []) (.of (w_10 : List Int))))) (encO (.at 8 []) (.of (w_10 : List Int))) rfl rfl rfl ?_
      refine g_v1 (t := 5) (u := (.ref (.bx 5) 0 [] (.agg [(.int .i64 e_19.1), (.int .i64 e_19.2)]))) (.ref (.bx 5) 0 [0] (.int .i64 e_19.1)) h5 rfl rfl ?_
      refine g_v1 (t := 19) (u := (.ref (.bx 5) 0 [0] (.int .i64 e_19.1))) (.int .i64 e_19.1) rfl rfl rfl ?_
      obtain ⟨e_20, E_e_20, h⟩ := bind_some h
      refine g_v (.ref (.at 8 []) e_19.1.toNat [] (.int .i64 e_20)) (ev_idxO (o := (.of w_10)) rfl rfl E_e_20 rfl) ?_
      refine g_v1 (t := 21) (u := (.ref (.at 8 []) e_19.1.toNat [] (.int .i64 e_20))) (.int .i64 e_20) rfl rfl rfl ?_
      refine g_v1 (t := 5) (u := (.ref (.bx 5) 0 [] (.agg [(.int .i64 e_19.1), (.int .i64 e_19.2)]))) (.ref (.bx 5) 0 [1] (.int .i64 e_19.2)) h5 rfl rfl ?_
      refine g_v1 (t := 23) (u := (.ref (.bx 5) 0 [1] (.int .i64 e_19.2))) (.int .i64 e_19.2) rfl rfl rfl ?_
      obtain ⟨q_21, E_q_21, h⟩ := bind_some h
      refine g_v (.int .i64 q_21) (ev_shl rfl rfl E_q_21) ?_
      refine g_v2 (t1 := 22) (t2 := 25) (u1 := (.int .i64 e_20)) (u2 := (.int .i64 q_21)) (.int .i64 (ior .i64 e_20 q_21)) rfl rfl rfl rfl ?_
      obtain ⟨e_22, E_e_22, h⟩ := bind_some h
      refine g_v (.ref (.at 8 []) e_19.1.toNat [] (.int .i64 e_22)) (ev_idxO (o := (.of w_10)) rfl rfl E_e_22 rfl) ?_
      refine g_store (.int .i64 (ior .i64 e_20 q_21)) (rd_of rfl rfl) (rd_of rfl rfl) (by refine ⟨by decide, by decide, rfl, rfl, rfl, ?_⟩; first | rfl | simp [V.toks, V.tokss, Enc.toks_enc]) ?_
      refine g_end ?_
      refine e_end ?_
      refine renew [(2, (.ref (.bx 2) 0 [] (.agg [(.sl .nl (Enc.shp Int) 0 [])]))), (3, (.ref (.bx 3) 0 [] (.agg [(encO (.at 8 []) (.of (w_10.set e_19.1.toNat (ior .i64 e_20 q_21) : List Int)))]))), (5, (.ref (.bx 5) 0 [] (.agg [(.int .i64 e_19.1), (.int .i64 e_19.2)]))), (11, (Enc.enc (g_1.2 : List (Int × Int)))), (12, (.int .i64 (g_1.2.length : Int))), (13, (.int .i64 t13_11))] ⟨(keep_mut h2 (mut_ref_ne rfl rfl (mut_agg (muts_cons rfl rfl)))), (keep_mut h3 (mut_ref_ne rfl rfl (mut_agg (muts_cons mut_own rfl)))), (keep_mut h5 rfl), (keep_mut h11 (Enc.mut_enc _ _ _ _ (g_1.2 : List (Int × Int)))), (keep_mut h12 rfl), (keep_mut h13 rfl)⟩ ?_
      rintro s ⟨h2, h3, h5, h11, h12, h13⟩
      refine .nsq ?_
      refine run_reg ?_
      refine e_end ?_
      refine g_v1 (t := 3) (u := (.ref (.bx 3) 0 [] (.agg [(encO (.at 8 []) (.of (w_10.set e_19.1.toNat (ior .i64 e_20 q_21) : List Int)))]))) (.ref (.bx 3) 0 [0] (encO (.at 8 []) (.of (w_10.set e_19.1.toNat (ior .i64 e_20 q_21) : List Int)))) h3 rfl rfl ?_
      refine g_v1 (t := 28) (u := (.ref (.bx 3) 0 [0] (encO (.at 8 []) (.of (w_10.set e_19.1.toNat (ior .i64 e_20 q_21) : List Int))))) (encO (.at 8 []) (.of (w_10.set e_19.1.toNat (ior .i64 e_20 q_21) : List Int))) rfl rfl rfl ?_
      refine g_v1 (t := 5) (u := (.ref (.bx 5) 0 [] (.agg [(.int .i64 e_19.1), (.int .i64 e_19.2)]))) (.ref (.bx 5) 0 [1] (.int .i64 e_19.2)) h5 rfl rfl ?_
      refine g_v1 (t := 30) (u := (.ref (.bx 5) 0 [1] (.int .i64 e_19.2))) (.int .i64 e_19.2) rfl rfl rfl ?_
      obtain ⟨e_23, E_e_23, h⟩ := bind_some h
      refine g_v (.ref (.at 8 []) e_19.2.toNat [] (.int .i64 e_23)) (ev_idxO (o := (.of (w_10.set e_19.1.toNat (ior .i64 e_20 q_21)))) rfl rfl E_e_23 rfl) ?_
      refine g_v1 (t := 32) (u := (.ref (.at 8 []) e_19.2.toNat [] (.int .i64 e_23))) (.int .i64 e_23) rfl rfl rfl ?_
      refine g_v1 (t := 5) (u := (.ref (.bx 5) 0 [] (.agg [(.int .i64 e_19.1), (.int .i64 e_19.2)]))) (.ref (.bx 5) 0 [0] (.int .i64 e_19.1)) h5 rfl rfl ?_
      refine g_v1 (t := 34) (u := (.ref (.bx 5) 0 [0] (.int .i64 e_19.1))) (.int .i64 e_19.1) rfl rfl rfl ?_
      obtain ⟨q_24, E_q_24, h⟩ := bind_some h
      refine g_v (.int .i64 q_24) (ev_shl rfl rfl E_q_24) ?_
      refine g_v2 (t1 := 33) (t2 := 36) (u1 := (.int .i64 e_23)) (u2 := (.int .i64 q_24)) (.int .i64 (ior .i64 e_23 q_24)) rfl rfl rfl rfl ?_
      obtain ⟨e_25, E_e_25, h⟩ := bind_some h
      refine g_v (.ref (.at 8 []) e_19.2.toNat [] (.int .i64 e_25)) (ev_idxO (o := (.of (w_10.set e_19.1.toNat (ior .i64 e_20 q_21)))) rfl rfl E_e_25 rfl) ?_
      refine g_store (.int .i64 (ior .i64 e_23 q_24)) (rd_of rfl rfl) (rd_of rfl rfl) (by refine ⟨by decide, by decide, rfl, rfl, rfl, ?_⟩; first | rfl | simp [V.toks, V.tokss, Enc.toks_enc]) ?_
      refine g_end ?_
      refine e_end ?_
      refine renew [(2, (.ref (.bx 2) 0 [] (.agg [(.sl .nl (Enc.shp Int) 0 [])]))), (3, (.ref (.bx 3) 0 [] (.agg [(encO (.at 8 []) (.of ((w_10.set e_19.1.toNat (ior .i64 e_20 q_21)).set e_19.2.toNat (ior .i64 e_23 q_24) : List Int)))]))), (11, (Enc.enc (g_1.2 : List (Int × Int)))), (12, (.int .i64 (g_1.2.length : Int))), (13, (.int .i64 t13_11))] ⟨(keep_mut h2 (mut_ref_ne rfl rfl (mut_agg (muts_cons rfl rfl)))), (keep_mut h3 (mut_ref_ne rfl rfl (mut_agg (muts_cons mut_own rfl)))), (keep_mut h11 (Enc.mut_enc _ _ _ _ (g_1.2 : List (Int × Int)))), (keep_mut h12 rfl), (keep_mut h13 rfl)⟩ ?_
      rintro s ⟨h2, h3, h11, h12, h13⟩
      refine .nbk ?_
      refine .nsq ?_
      refine run_reg ?_
      refine e_end ?_
      refine g_v1 (t := 13) (u := (.int .i64 t13_11)) (.int .i64 (w64 (t13_11 + 1))) h13 rfl rfl ?_
      refine g_v1 (t := 39) (u := (.int .i64 (w64 (t13_11 + 1)))) (.int .i64 (w64 (t13_11 + 1))) rfl rfl rfl ?_
      refine g_end ?_
      refine e_end ?_
      refine renew [(2, (.ref (.bx 2) 0 [] (.agg [(.sl .nl (Enc.shp Int) 0 [])]))), (3, (.ref (.bx 3) 0 [] (.agg [(encO (.at 8 []) (.of ((w_10.set e_19.1.toNat (ior .i64 e_20 q_21)).set e_19.2.toNat (ior .i64 e_23 q_24) : List Int)))]))), (11, (Enc.enc (g_1.2 : List (Int × Int)))), (12, (.int .i64 (g_1.2.length : Int))), (13, (.int .i64 (w64 (t13_11 + 1))))] ⟨h2, h3, h11, h12, rfl⟩ ?_
      rintro s ⟨h2, h3, h11, h12, h13⟩
      refine .nlp ?_
      exact ih ((w_10.set e_19.1.toNat (ior .i64 e_20 q_21)).set e_19.2.toNat (ior .i64 e_23 q_24)) (w64 (t13_11 + 1)) _ ⟨h2, h3, h11, h12, h13⟩ h
    · refine .exit ?_
      refine .esq ?_
      refine .elp ?_
      refine .ebk ?_
      refine .nsq ?_
      refine .seq ?_
      refine run_reg ?_
      refine e_end ?_
      refine g_v1 (t := 3) (u := (.ref (.bx 3) 0 [] (.agg [(encO (.at 8 []) (.of (w_10 : List Int)))]))) (.agg [(encO (.at 8 []) (.of (w_10 : List Int)))]) h3 rfl rfl ?_
      refine g_store (.agg [(encO (.at 8 []) (.of (w_10 : List Int)))]) (rd_of h2 rfl) (rd_of rfl rfl) (by refine ⟨by decide, by decide, rfl, rfl, rfl, ?_⟩; first | rfl | simp [V.toks, V.tokss, Enc.toks_enc]) ?_
      refine g_end ?_
      refine e_end ?_
      refine renew [(2, (.ref (.bx 2) 0 [] (.agg [(encO (.at 8 []) (.of (w_10 : List Int)))])))] (keep_mut h2 rfl) ?_
      rintro s h2
      refine .nsq ?_
      refine .ret ?_
      have hr := Option.some.inj h
      subst hr
      exact rrA (res_cell h2 (by kernel_rfl)) (fin_retF (fin_agg (fins_cons (fin_own (o := .of w_10)) fins_nil)) (mine_agg (mines_cons (mine_own rfl) mines_nil)))
def i_netOf (F : Nat) (g_1 : (Int × (List (Int × Int)))) : Option (S1 (List Int)) :=
  (mkN g_1.1 (0 : Int)).bind fun mk_2 =>
  i_netOf_l1 F g_1 F mk_2 0
theorem t55 (H : H55 D σ F) (g_1 : (Int × (List (Int × Int)))) (s : Nat → V) (hs : Facts [(0, (.agg [(.int .i64 g_1.1), (Enc.enc (g_1.2 : List (Int × Int)))]))] s) (h : i_netOf F g_1 = some r) : Run D σ (R55 r) (.run A55 []) s := by
  unfold i_netOf at h
  have h0 := hs
  refine .seq ?_
  refine run_reg ?_
  refine e_clr ?_
  refine e_end ?_
  refine g_box (.agg [(.int .i64 g_1.1), (Enc.enc (g_1.2 : List (Int × Int)))]) (rd_of (keep_clear (s := s) (pk := [1, 2]) h0 rfl (map_agg (maps_cons rfl (maps_cons (Enc.map_enc _ (g_1.2 : List (Int × Int))) maps_nil)))) rfl) (gone_clear (s := s) (pk := [1, 2]) (t := 1) rfl) rfl ?_
  refine g_alloc (gone_clear (s := s) (pk := [1, 2]) (t := 2) rfl) ?_
  refine g_end ?_
  refine e_end ?_
  refine renew [(1, (.ref (.bx 1) 0 [] (.agg [(.int .i64 g_1.1), (Enc.enc (g_1.2 : List (Int × Int)))]))), (2, (.ref (.bx 2) 0 [] (.agg [(.sl .nl (Enc.shp Int) 0 [])])))] ⟨rfl, rfl⟩ ?_
  rintro s ⟨h1, h2⟩
  refine .nsq ?_
  refine .seq ?_
  refine run_reg ?_
  refine e_clr ?_
  refine e_end ?_
  refine g_v1 (t := 1) (u := (.ref (.bx 1) 0 [] (.agg [(.int .i64 g_1.1), (Enc.enc (g_1.2 : List (Int × Int)))]))) (.ref (.bx 1) 0 [0] (.int .i64 g_1.1)) (keep_clear (s := s) (pk := [8, 3]) h1 rfl (map_bx rfl (map_agg (maps_cons rfl (maps_cons (Enc.map_enc _ (g_1.2 : List (Int × Int))) maps_nil))))) rfl rfl ?_
  refine g_v1 (t := 6) (u := (.ref (.bx 1) 0 [0] (.int .i64 g_1.1))) (.int .i64 g_1.1) rfl rfl rfl ?_
  obtain ⟨mk_2, E_mk_2, h⟩ := bind_some h
  refine g_mk (0 : Int) rfl rfl (gone_clear (s := s) (pk := [8, 3]) (t := 8) rfl) E_mk_2 ?_
  refine g_v1 (t := 8) (u := (encO (.at 8 []) (.of (mk_2 : List Int)))) (.agg [(encO (.at 8 []) (.of (mk_2 : List Int)))]) rfl rfl rfl ?_
  refine g_alloc (gone_clear (s := s) (pk := [8, 3]) (t := 3) rfl) ?_
  refine g_store (.agg [(encO (.at 8 []) (.of (mk_2 : List Int)))]) (rd_of rfl rfl) (rd_of rfl rfl) (by refine ⟨by decide, by decide, rfl, rfl, rfl, ?_⟩; first | rfl | simp [V.toks, V.tokss, Enc.toks_enc]) ?_
  refine g_end ?_
  refine e_end ?_
  refine renew [(1, (.ref (.bx 1) 0 [] (.agg [(.int .i64 g_1.1), (Enc.enc (g_1.2 : List (Int × Int)))]))), (2, (.ref (.bx 2) 0 [] (.agg [(.sl .nl (Enc.shp Int) 0 [])]))), (3, (.ref (.bx 3) 0 [] (.agg [(encO (.at 8 []) (.of (mk_2 : List Int)))])))] ⟨(keep_mut (keep_clear (s := s) (pk := [8, 3]) h1 rfl (map_bx rfl (map_agg (maps_cons rfl (maps_cons (Enc.map_enc _ (g_1.2 : List (Int × Int))) maps_nil))))) (mut_ref_ne rfl rfl (mut_agg (muts_cons rfl (muts_cons (Enc.mut_enc _ _ _ _ (g_1.2 : List (Int × Int))) rfl))))), (keep_mut (keep_clear (s := s) (pk := [8, 3]) h2 rfl (map_bx rfl (map_agg (maps_cons rfl maps_nil)))) (mut_ref_ne rfl rfl (mut_agg (muts_cons rfl rfl)))), (keep_mut rfl rfl)⟩ ?_
  rintro s ⟨h1, h2, h3⟩
  refine .nsq ?_
  refine .seq ?_
  refine .seq ?_
  refine run_reg ?_
  refine e_end ?_
  refine g_v1 (t := 1) (u := (.ref (.bx 1) 0 [] (.agg [(.int .i64 g_1.1), (Enc.enc (g_1.2 : List (Int × Int)))]))) (.ref (.bx 1) 0 [1] (Enc.enc (g_1.2 : List (Int × Int)))) h1 rfl rfl ?_
  refine g_v1 (t := 10) (u := (.ref (.bx 1) 0 [1] (Enc.enc (g_1.2 : List (Int × Int))))) (Enc.enc (g_1.2 : List (Int × Int))) rfl rfl rfl ?_
  refine g_v (.int .i64 (g_1.2.length : Int)) (ev_len (xs := g_1.2) rfl) ?_
  refine g_v0 (.int .i64 0) rfl rfl ?_
  refine g_end ?_
  refine e_end ?_
  refine renew [(2, (.ref (.bx 2) 0 [] (.agg [(.sl .nl (Enc.shp Int) 0 [])]))), (3, (.ref (.bx 3) 0 [] (.agg [(encO (.at 8 []) (.of (mk_2 : List Int)))]))), (11, (Enc.enc (g_1.2 : List (Int × Int)))), (12, (.int .i64 (g_1.2.length : Int))), (13, (.int .i64 0))] ⟨h2, h3, rfl, rfl, rfl⟩ ?_
  rintro s ⟨h2, h3, h11, h12, h13⟩
  refine .nsq ?_
  refine .block ?_
  refine .loop ?_
  exact t_f55_l1 H g_1 F mk_2 0 _ ⟨h2, h3, h11, h12, h13⟩ h
end
def e55 (F : Nat) : Ent := ⟨55, da (fun (x : ((Int × (List (Int × Int))) × Unit)) => i_netOf F x.1) (fun (r : (S1 (List Int))) => (Enc.enc (r : (S1 (List Int))))), 0, false, selF []⟩
theorem p55 {F : Nat} {x0 : (Int × (List (Int × Int)))} {r : (S1 (List Int))} (h : i_netOf F x0 = some r) : (e55 F).den [Enc.enc x0] = some (Enc.enc (r : (S1 (List Int)))) := da_put (f := fun (x : ((Int × (List (Int × Int))) × Unit)) => i_netOf F x.1) (t := fun (r : (S1 (List Int))) => (Enc.enc (r : (S1 (List Int))))) (x0, ()) h
theorem o55 {D : Den} {σ : Sig} {F : Nat} (hF : Fits2 Try.prog D σ) (H : H55 D σ F) : (e55 F).Ok Try.prog := by
  refine ok_of (f := 55) (show unk 55 = 55 from rfl) (fun args r h => ?_) ⟨Try.f55, Try.func55, rfl, rfl⟩
  obtain ⟨⟨x0, _⟩, y, rfl, hy, rfl⟩ := da_open h
  exact contract_run hF (by kernel_rfl) Try.func55 rfl c55 (show 1 ≤ Try.f55.ntmps by decide) (t55 H x0 _ rfl hy)
/- slices.Clone[[]int,int] -/
shelf_lay Lays2.n15 Nm2 15 at Try as Lay142
structure H142 (D : Den) (σ : Sig) (F : Nat) : Prop where
  mk ::
def slices_Clone (F : Nat) (s_1 : (List Int)) : Option (List Int) :=
  cloneT s_1
def e142 (F : Nat) : Ent := ⟨142, da (fun (x : ((List Int) × Unit)) => slices_Clone F x.1) (fun (r : (List Int)) => (Enc.enc (r : (List Int)))), 0, false, selF []⟩
theorem p142 {F : Nat} {x0 : (List Int)} {r : (List Int)} (h : slices_Clone F x0 = some r) : (e142 F).den [Enc.enc x0] = some (Enc.enc (r : (List Int))) := da_put (f := fun (x : ((List Int) × Unit)) => slices_Clone F x.1) (t := fun (r : (List Int)) => (Enc.enc (r : (List Int)))) (x0, ()) h
theorem o142 {D : Den} {σ : Sig} {F : Nat} (hF : Fits2 Try.prog D σ) (H : H142 D σ F) : (e142 F).Ok Try.prog := by
  refine ok_of (f := 142) (show unk 142 = 142 from rfl) (fun args r h => ?_) ⟨Try.f142, Try.func142, rfl, rfl⟩
  obtain ⟨⟨x0, _⟩, y, rfl, hy, rfl⟩ := da_open h
  exact con_plain (f := 142) (clone_con Lay142 hy) rfl
/- (loop.example/g01109/impl.net).clone -/
def A140_1 : AC := (AC.seq (AC.reg [] [(I.mk (some 3) none false (X.v (A.fld (O.t 1) 0 0))), (I.mk (some 4) none false (X.v (A.load Sh.p (O.t 3)))), (I.mk (some 5) none false (X.call (O.k (V.fn 142 [] [])) [(O.t 4)])), (I.mk (some 6) none false (X.v (A.bld (V.agg [(V.sl Tok.nl Sh.s 0 [])]) [(0, 0, (O.t 5))]))), (I.mk none none false (X.store (Sh.ag [Sh.p]) (O.t 2) (O.t 6)))] []) AC.ret)
def A140 : AC := (AC.seq (AC.reg [.clr [1, 2]] [(I.mk (some 1) none false (X.box (O.t 0))), (I.mk (some 2) none false (X.alloc (V.agg [(V.sl Tok.nl Sh.s 0 [])])))] []) A140_1)
def an140 : List An := [{ id := 0, pre := [.clr [1, 2]], ep := [], lin := [], sp := [] }]
theorem c140 : cC Try.prog Try.f140.ntmps an140 (Try.f140.body.getD .skip) = some A140 := by kernel_rfl
structure H140 (D : Den) (σ : Sig) (F : Nat) : Prop where
  c142 : ∀ (x0 : (List Int)) r, slices_Clone F x0 = some r → D 142 [Enc.enc x0] = some (Enc.enc (r : (List Int)))
  g142 : σ 142 = some (0, false)
abbrev R140 (r : (S1 (List Int))) : (Nat → V) → Prop := RR Try.prog [.cell 2 56] 0 true (Enc.enc (r : (S1 (List Int))))
section
variable {D : Den} {σ : Sig} {F : Nat} {r : (S1 (List Int))}
def i_net_clone (F : Nat) (w_1 : (S1 (List Int))) : Option (S1 (List Int)) :=
  (slices_Clone F w_1.a).bind fun r_2 =>
  some (S1.mk r_2)
theorem t140 (H : H140 D σ F) (w_1 : (S1 (List Int))) (s : Nat → V) (hs : Facts [(0, (.agg [(Enc.enc (w_1.a : List Int))]))] s) (h : i_net_clone F w_1 = some r) : Run D σ (R140 r) (.run A140 []) s := by
  unfold i_net_clone at h
  have h0 := hs
  refine .seq ?_
  refine run_reg ?_
  refine e_clr ?_
  refine e_end ?_
  refine g_box (.agg [(Enc.enc (w_1.a : List Int))]) (rd_of (keep_clear (s := s) (pk := [1, 2]) h0 rfl (map_agg (maps_cons (Enc.map_enc _ (w_1.a : List Int)) maps_nil))) rfl) (gone_clear (s := s) (pk := [1, 2]) (t := 1) rfl) rfl ?_
  refine g_alloc (gone_clear (s := s) (pk := [1, 2]) (t := 2) rfl) ?_
  refine g_end ?_
  refine e_end ?_
  refine renew [(1, (.ref (.bx 1) 0 [] (.agg [(Enc.enc (w_1.a : List Int))]))), (2, (.ref (.bx 2) 0 [] (.agg [(.sl .nl (Enc.shp Int) 0 [])])))] ⟨rfl, rfl⟩ ?_
  rintro s ⟨h1, h2⟩
  refine .nsq ?_
  refine .seq ?_
  refine run_reg ?_
  refine e_end ?_
  refine g_v1 (t := 1) (u := (.ref (.bx 1) 0 [] (.agg [(Enc.enc (w_1.a : List Int))]))) (.ref (.bx 1) 0 [0] (Enc.enc (w_1.a : List Int))) h1 rfl rfl ?_
  refine g_v1 (t := 3) (u := (.ref (.bx 1) 0 [0] (Enc.enc (w_1.a : List Int)))) (Enc.enc (w_1.a : List Int)) rfl rfl rfl ?_
  obtain ⟨r_2, E_r_2, h⟩ := bind_some h
  refine g_call (m := 0) (al := false) (r := (Enc.enc (r_2 : (List Int)))) [Enc.enc (w_1.a : (List Int))] (ta_cons (v := (Enc.enc (w_1.a : List Int))) rfl rfl (Enc.erase_enc (w_1.a : (List Int))) ta_nil) (H.c142 _ _ E_r_2) H.g142 rfl rfl rfl rfl ?_
  refine g_v1 (t := 5) (u := (Enc.enc (r_2 : List Int))) (.agg [(Enc.enc (r_2 : List Int))]) rfl rfl rfl ?_
  refine g_store (.agg [(Enc.enc (r_2 : List Int))]) (rd_of h2 rfl) (rd_of rfl rfl) (by refine ⟨by decide, by decide, rfl, rfl, rfl, ?_⟩; first | rfl | simp [V.toks, V.tokss, Enc.toks_enc]) ?_
  refine g_end ?_
  refine e_end ?_
  refine renew [(2, (.ref (.bx 2) 0 [] (.agg [(Enc.enc (r_2 : List Int))])))] (keep_mut h2 rfl) ?_
  rintro s h2
  refine .nsq ?_
  refine .ret ?_
  have hr := Option.some.inj h
  subst hr
  exact rrA (res_cell h2 (by kernel_rfl)) (fin_ret1 (fin_enc (x := ((S1.mk r_2) : (S1 (List Int))))))
end
def e140 (F : Nat) : Ent := ⟨140, da (fun (x : ((S1 (List Int)) × Unit)) => i_net_clone F x.1) (fun (r : (S1 (List Int))) => (Enc.enc (r : (S1 (List Int))))), 0, true, selF []⟩
theorem p140 {F : Nat} {x0 : (S1 (List Int))} {r : (S1 (List Int))} (h : i_net_clone F x0 = some r) : (e140 F).den [Enc.enc x0] = some (Enc.enc (r : (S1 (List Int)))) := da_put (f := fun (x : ((S1 (List Int)) × Unit)) => i_net_clone F x.1) (t := fun (r : (S1 (List Int))) => (Enc.enc (r : (S1 (List Int))))) (x0, ()) h
theorem o140 {D : Den} {σ : Sig} {F : Nat} (hF : Fits2 Try.prog D σ) (H : H140 D σ F) : (e140 F).Ok Try.prog := by
  refine ok_of (f := 140) (show unk 140 = 140 from rfl) (fun args r h => ?_) ⟨Try.f140, Try.func140, rfl, rfl⟩
  obtain ⟨⟨x0, _⟩, y, rfl, hy, rfl⟩ := da_open h
  exact contract_run hF (by kernel_rfl) Try.func140 rfl c140 (show 1 ≤ Try.f140.ntmps by decide) (t140 H x0 _ rfl hy)
/- (loop.example/g01109/impl.net).all -/
def A68_1 : AC := (AC.seq (AC.reg [] [(I.mk (some 3) none false (X.v (A.fld (O.t 1) 0 0))), (I.mk (some 4) none false (X.v (A.load Sh.p (O.t 3)))), (I.mk (some 5) none false (X.v (A.len (O.t 4)))), (I.mk (some 6) none false (X.v (A.bin BinOp.shl (O.k (V.int IntKind.i64 (Int.ofNat 1))) (O.t 5)))), (I.mk (some 7) none false (X.v (A.bin BinOp.sub (O.t 6) (O.k (V.int IntKind.i64 (Int.ofNat 1)))))), (I.mk (some 2) none false (X.v (A.mov (O.t 7))))] []) AC.ret)
def A68 : AC := (AC.seq (AC.reg [.clr [1]] [(I.mk (some 1) none false (X.box (O.t 0))), (I.mk (some 2) none false (X.v (A.mov (O.k (V.int IntKind.i64 (Int.ofNat 0))))))] []) A68_1)
def an68 : List An := [{ id := 0, pre := [.clr [1]], ep := [], lin := [], sp := [] }]
theorem c68 : cC Try.prog Try.f68.ntmps an68 (Try.f68.body.getD .skip) = some A68 := by kernel_rfl
structure H68 (D : Den) (σ : Sig) (F : Nat) : Prop where
  mk ::
abbrev R68 (r : Int) : (Nat → V) → Prop := RR Try.prog [.tmp 2] 0 false (Enc.enc (r : Int))
section
variable {D : Den} {σ : Sig} {F : Nat} {r : Int}
def i_net_all (F : Nat) (w_1 : (S1 (List Int))) : Option Int :=
  (shlI .i64 1 (w_1.a.length : Int)).bind fun q_2 =>
  some (w64 (q_2 - 1))
theorem t68 (H : H68 D σ F) (w_1 : (S1 (List Int))) (s : Nat → V) (hs : Facts [(0, (.agg [(Enc.enc (w_1.a : List Int))]))] s) (h : i_net_all F w_1 = some r) : Run D σ (R68 r) (.run A68 []) s := by
  unfold i_net_all at h
  have h0 := hs
  refine .seq ?_
  refine run_reg ?_
  refine e_clr ?_
  refine e_end ?_
  refine g_box (.agg [(Enc.enc (w_1.a : List Int))]) (rd_of (keep_clear (s := s) (pk := [1]) h0 rfl (map_agg (maps_cons (Enc.map_enc _ (w_1.a : List Int)) maps_nil))) rfl) (gone_clear (s := s) (pk := [1]) (t := 1) rfl) rfl ?_
  refine g_v0 (.int .i64 0) rfl rfl ?_
  refine g_end ?_
  refine e_end ?_
  refine renew [(1, (.ref (.bx 1) 0 [] (.agg [(Enc.enc (w_1.a : List Int))]))), (2, (.int .i64 0))] ⟨rfl, rfl⟩ ?_
  rintro s ⟨h1, h2⟩
  refine .nsq ?_
  refine .seq ?_
  refine run_reg ?_
  refine e_end ?_
  refine g_v1 (t := 1) (u := (.ref (.bx 1) 0 [] (.agg [(Enc.enc (w_1.a : List Int))]))) (.ref (.bx 1) 0 [0] (Enc.enc (w_1.a : List Int))) h1 rfl rfl ?_
  refine g_v1 (t := 3) (u := (.ref (.bx 1) 0 [0] (Enc.enc (w_1.a : List Int)))) (Enc.enc (w_1.a : List Int)) rfl rfl rfl ?_
  refine g_v (.int .i64 (w_1.a.length : Int)) (ev_len (xs := w_1.a) rfl) ?_
  obtain ⟨q_2, E_q_2, h⟩ := bind_some h
  refine g_v (.int .i64 q_2) (ev_shl rfl rfl E_q_2) ?_
  refine g_v1 (t := 6) (u := (.int .i64 q_2)) (.int .i64 (w64 (q_2 - 1))) rfl rfl rfl ?_
  refine g_v1 (t := 7) (u := (.int .i64 (w64 (q_2 - 1)))) (.int .i64 (w64 (q_2 - 1))) rfl rfl rfl ?_
  refine g_end ?_
  refine e_end ?_
  refine renew [(2, (.int .i64 (w64 (q_2 - 1))))] rfl ?_
  rintro s h2
  refine .nsq ?_
  refine .ret ?_
  have hr := Option.some.inj h
  subst hr
  exact rrA (res_tmp h2) rfl
end
def e68 (F : Nat) : Ent := ⟨68, da (fun (x : ((S1 (List Int)) × Unit)) => i_net_all F x.1) (fun (r : Int) => (Enc.enc (r : Int))), 0, false, selF []⟩
theorem p68 {F : Nat} {x0 : (S1 (List Int))} {r : Int} (h : i_net_all F x0 = some r) : (e68 F).den [Enc.enc x0] = some (Enc.enc (r : Int)) := da_put (f := fun (x : ((S1 (List Int)) × Unit)) => i_net_all F x.1) (t := fun (r : Int) => (Enc.enc (r : Int))) (x0, ()) h
theorem o68 {D : Den} {σ : Sig} {F : Nat} (hF : Fits2 Try.prog D σ) (H : H68 D σ F) : (e68 F).Ok Try.prog := by
  refine ok_of (f := 68) (show unk 68 = 68 from rfl) (fun args r h => ?_) ⟨Try.f68, Try.func68, rfl, rfl⟩
  obtain ⟨⟨x0, _⟩, y, rfl, hy, rfl⟩ := da_open h
  exact contract_run hF (by kernel_rfl) Try.func68 rfl c68 (show 1 ≤ Try.f68.ntmps by decide) (t68 H x0 _ rfl hy)
/- loop.example/g01109/impl.setOf -/
def A121_2 : AC := (AC.cond (O.t 8) AC.skip (AC.exit 0))
def A121_4 : AC := (AC.cond (O.t 15) (AC.reg [.clr [18, 19]] [(I.mk (some 16) none false (X.v (A.mov (O.t 3)))), (I.mk (some 17) none false (X.v (A.mov (O.t 4)))), (I.mk (some 18) none false (X.lit (V.int IntKind.i64 (Int.ofNat 0)) 1 [(0, 0, (O.t 17))])), (I.mk (some 19) none false (X.app Sh.s (O.t 16) (O.t 18))), (I.mk (some 3) none false (X.v (A.mov (O.t 19))))] [.home 19 3]) AC.skip)
def A121_5 : AC := (AC.reg [] [(I.mk (some 9) none false (X.v (A.mov (O.t 4)))), (I.mk (some 10) none false (X.v (A.bin BinOp.add (O.t 9) (O.k (V.int IntKind.i64 (Int.ofNat 1)))))), (I.mk (some 4) none false (X.v (A.mov (O.t 10))))] [])
def A121_3 : AC := (AC.seq (AC.block 1 (AC.seq (AC.reg [] [(I.mk (some 11) none false (X.v (A.mov (O.t 0)))), (I.mk (some 12) none false (X.v (A.mov (O.t 4)))), (I.mk (some 13) none false (X.v (A.bin BinOp.shr (O.t 11) (O.t 12)))), (I.mk (some 14) none false (X.v (A.bin BinOp.and (O.t 13) (O.k (V.int IntKind.i64 (Int.ofNat 1)))))), (I.mk (some 15) none false (X.v (A.bin BinOp.eql (O.t 14) (O.k (V.int IntKind.i64 (Int.ofNat 1))))))] []) A121_4)) A121_5)
def A121_1 : AC := (AC.seq (AC.seq (AC.reg [] [(I.mk (some 5) none false (X.v (A.mov (O.t 0)))), (I.mk (some 6) none false (X.v (A.mov (O.t 4)))), (I.mk (some 7) none false (X.v (A.bin BinOp.shr (O.t 5) (O.t 6)))), (I.mk (some 8) none false (X.v (A.bin BinOp.neq (O.t 7) (O.k (V.int IntKind.i64 (Int.ofNat 0))))))] []) A121_2) A121_3)
def A121_6 : AC := (AC.seq (AC.reg [] [(I.mk (some 20) none false (X.v (A.mov (O.t 3)))), (I.mk (some 2) none false (X.v (A.mov (O.t 20))))] [.home 3 2]) AC.ret)
def A121_9 : AC := (AC.block 0 (AC.loop A121_1))
def A121_8 : AC := (AC.seq (AC.seq (AC.reg [] [(I.mk (some 4) none false (X.v (A.mov (O.k (V.int IntKind.i64 (Int.ofNat 0))))))] []) A121_9) A121_6)
def A121_7 : AC := (AC.seq (AC.reg [] [(I.mk (some 3) none false (X.v (A.mov (O.k (V.sl Tok.nl Sh.s 0 [])))))] []) A121_8)
def A121 : AC := (AC.seq (AC.reg [] [(I.mk (some 2) none false (X.v (A.mov (O.k (V.sl Tok.nl Sh.s 0 [])))))] []) A121_7)
def an121 : List An := [{ id := 6, pre := [.clr [18, 19]], ep := [.home 19 3], lin := [], sp := [] }, { id := 7, pre := [], ep := [.home 3 2], lin := [], sp := [] }]
theorem c121 : cC Try.prog Try.f121.ntmps an121 (Try.f121.body.getD .skip) = some A121 := by kernel_rfl
structure H121 (D : Den) (σ : Sig) (F : Nat) : Prop where
  mk ::
abbrev R121 (r : (List Int)) : (Nat → V) → Prop := RR Try.prog [.tmp 2] 0 false (Enc.enc (r : (List Int)))
section
variable {D : Den} {σ : Sig} {F : Nat} {r : (List Int)}
def i_setOf_j1 (F : Nat) (set_1 : Int) (x_8 : Int) (c1 : (NL Int) → Int → Option (List Int)) (list_17 : (NL Int)) : Option (List Int) :=
  c1 list_17 (w64 (x_8 + 1))
theorem t_f121_j1 (H : H121 D σ F) (set_1 : Int) (x_8 : Int) (c1 : (NL Int) → Int → Option (List Int)) (Hc1 : ∀ (list_7 : (NL Int)) (x_8 : Int) (s : Nat → V), Facts [(0, (.int .i64 set_1)), (2, (.sl .nl (Enc.shp Int) 0 [])), (3, (encO (.at 3 []) (list_7 : NL Int))), (4, (.int .i64 x_8))] s → c1 list_7 x_8 = some r → Run D σ (R121 r) (.run A121_1 [.lp A121_1, .bk 0, .sq A121_6]) s) (list_17 : (NL Int)) (s : Nat → V) (hs : Facts [(0, (.int .i64 set_1)), (2, (.sl .nl (Enc.shp Int) 0 [])), (3, (encO (.at 3 []) (list_17 : NL Int))), (4, (.int .i64 x_8))] s) (h : i_setOf_j1 F set_1 x_8 c1 list_17 = some r) : Run D σ (R121 r) (.nrm [.bk 1, .sq A121_5, .lp A121_1, .bk 0, .sq A121_6]) s := by
  unfold i_setOf_j1 at h
  obtain ⟨h0, h2, h3, h4⟩ := hs
  refine .nbk ?_
  refine .nsq ?_
  refine run_reg ?_
  refine e_end ?_
  refine g_v1 (t := 4) (u := (.int .i64 x_8)) (.int .i64 x_8) h4 rfl rfl ?_
  refine g_v1 (t := 9) (u := (.int .i64 x_8)) (.int .i64 (w64 (x_8 + 1))) rfl rfl rfl ?_
  refine g_v1 (t := 10) (u := (.int .i64 (w64 (x_8 + 1)))) (.int .i64 (w64 (x_8 + 1))) rfl rfl rfl ?_
  refine g_end ?_
  refine e_end ?_
  refine renew [(0, (.int .i64 set_1)), (2, (.sl .nl (Enc.shp Int) 0 [])), (3, (encO (.at 3 []) (list_17 : NL Int))), (4, (.int .i64 (w64 (x_8 + 1))))] ⟨h0, h2, h3, rfl⟩ ?_
  rintro s ⟨h0, h2, h3, h4⟩
  refine .nlp ?_
  exact Hc1 list_17 (w64 (x_8 + 1)) _ ⟨h0, h2, h3, h4⟩ h
def i_setOf_l1 (F : Nat) (set_1 : Int)  : Nat → (NL Int) → Int → Option (List Int)
  | 0, _, _ => none
  | k + 1, list_7, x_8 =>
    (shrI .i64 set_1 x_8).bind fun q_14 =>
    bif (q_14 != 0) then
      (shrI .i64 set_1 x_8).bind fun q_15 =>
      bif ((iand .i64 q_15 1) == 1) then
        (appL list_7.list [x_8]).bind fun ap_18 =>
        i_setOf_j1 F set_1 x_8 (i_setOf_l1 F set_1 k) (.of ap_18)
      else
        i_setOf_j1 F set_1 x_8 (i_setOf_l1 F set_1 k) list_7
    else
      some list_7.list
theorem t_f121_l1 (H : H121 D σ F) (set_1 : Int)  : ∀ (k : Nat) (list_7 : (NL Int)) (x_8 : Int) (s : Nat → V), Facts [(0, (.int .i64 set_1)), (2, (.sl .nl (Enc.shp Int) 0 [])), (3, (encO (.at 3 []) (list_7 : NL Int))), (4, (.int .i64 x_8))] s → i_setOf_l1 F set_1 k list_7 x_8 = some r → Run D σ (R121 r) (.run A121_1 [.lp A121_1, .bk 0, .sq A121_6]) s := by
  intro k
  induction k with
  | zero => intro list_7 x_8 s _ h; exact nomatch (h : (none : Option _) = some r)
  | succ k ih =>
    intro list_7 x_8 s hs h
    rw [i_setOf_l1] at h
    obtain ⟨h0, h2, h3, h4⟩ := hs
    refine .seq ?_
    refine .seq ?_
    refine run_reg ?_
    refine e_end ?_
    refine g_v1 (t := 0) (u := (.int .i64 set_1)) (.int .i64 set_1) h0 rfl rfl ?_
    refine g_v1 (t := 4) (u := (.int .i64 x_8)) (.int .i64 x_8) h4 rfl rfl ?_
    obtain ⟨q_14, E_q_14, h⟩ := bind_some h
    refine g_v (.int .i64 q_14) (ev_shr rfl rfl E_q_14) ?_
    refine g_v1 (t := 7) (u := (.int .i64 q_14)) (.bool (q_14 != 0)) rfl rfl rfl ?_
    refine g_end ?_
    refine e_end ?_
    refine renew [(0, (.int .i64 set_1)), (2, (.sl .nl (Enc.shp Int) 0 [])), (3, (encO (.at 3 []) (list_7 : NL Int))), (4, (.int .i64 x_8)), (8, (.bool (q_14 != 0)))] ⟨h0, h2, h3, h4, rfl⟩ ?_
    rintro s ⟨h0, h2, h3, h4, h8⟩
    refine .nsq ?_
    refine run_cond (t := (q_14 != 0)) h8 h (fun h => ?_) (fun h => ?_)
    · refine .skip ?_
      refine .nsq ?_
      refine .seq ?_
      refine .block ?_
      refine .seq ?_
      refine run_reg ?_
      refine e_end ?_
      refine g_v1 (t := 0) (u := (.int .i64 set_1)) (.int .i64 set_1) h0 rfl rfl ?_
      refine g_v1 (t := 4) (u := (.int .i64 x_8)) (.int .i64 x_8) h4 rfl rfl ?_
      obtain ⟨q_15, E_q_15, h⟩ := bind_some h
      refine g_v (.int .i64 q_15) (ev_shr rfl rfl E_q_15) ?_
      refine g_v1 (t := 13) (u := (.int .i64 q_15)) (.int .i64 (iand .i64 q_15 1)) rfl rfl rfl ?_
      refine g_v1 (t := 14) (u := (.int .i64 (iand .i64 q_15 1))) (.bool ((iand .i64 q_15 1) == 1)) rfl rfl rfl ?_
      refine g_end ?_
      refine e_end ?_
      refine renew [(0, (.int .i64 set_1)), (2, (.sl .nl (Enc.shp Int) 0 [])), (3, (encO (.at 3 []) (list_7 : NL Int))), (4, (.int .i64 x_8)), (15, (.bool ((iand .i64 q_15 1) == 1)))] ⟨h0, h2, h3, h4, rfl⟩ ?_
      rintro s ⟨h0, h2, h3, h4, h15⟩
      refine .nsq ?_
      refine run_cond (t := ((iand .i64 q_15 1) == 1)) h15 h (fun h => ?_) (fun h => ?_)
      · refine run_reg ?_
        refine e_clr ?_
        refine e_end ?_
        refine g_v (encO (.at 3 []) (list_7 : NL Int)) (ev_mov (keep_clear (s := s) (pk := [18, 19]) h3 rfl (map_encO (r := 3) (p := []) rfl rfl)) ok_encO) ?_
        refine g_v1 (t := 4) (u := (.int .i64 x_8)) (.int .i64 x_8) (keep_clear (s := s) (pk := [18, 19]) h4 rfl rfl) rfl rfl ?_
        refine g_litL [(17, (.int .i64 x_8))] [Enc.enc (x_8 : Int)] rfl rfl rfl (gone_clear (s := s) (pk := [18, 19]) (t := 18) rfl) ?_
        obtain ⟨ap_18, E_ap_18, h⟩ := bind_some h
        refine g_app (q := 3) (p := []) (o := (list_7 : NL Int)) (ys := ([x_8] : List Int)) (t2 := (.at 18 [])) (lo2 := 0) rfl rfl rfl (gone_clear (s := s) (pk := [18, 19]) (t := 19) rfl) (appN_L (o := (list_7 : NL Int)) E_ap_18 (by split <;> simp)) (fun s_17 ha_17 => ?_)
        refine g_v1 (t := 19) (u := (encO (.at 19 []) (.of (ap_18 : List Int)))) (encO (.at 19 []) (.of (ap_18 : List Int))) rfl rfl rfl ?_
        refine g_end ?_
        refine e_home (r := 19) (x := 3) (v := (encO (.at 19 []) (.of (ap_18 : List Int)))) (by exact rfl) rfl (fun s_18 hg_18 => ?_)
        refine e_end ?_
        refine renew [(0, (.int .i64 set_1)), (2, (.sl .nl (Enc.shp Int) 0 [])), (3, (encO (.at 3 []) (.of (ap_18 : List Int)))), (4, (.int .i64 x_8))] ⟨(hg_18 0 (.int .i64 set_1) (.int .i64 set_1) (show s_17 0 = (.int .i64 set_1) from keep_app ha_17 (keep_clear (s := s) (pk := [18, 19]) h0 rfl rfl) rfl) rfl), (hg_18 2 (.sl .nl (Enc.shp Int) 0 []) (.sl .nl (Enc.shp Int) 0 []) (show s_17 2 = (.sl .nl (Enc.shp Int) 0 []) from keep_app ha_17 (keep_clear (s := s) (pk := [18, 19]) h2 rfl rfl) rfl) rfl), (hg_18 3 (encO (.at 19 []) (.of (ap_18 : List Int))) (encO (.at 3 []) (.of (ap_18 : List Int))) rfl (map_encO (r := 19) (p := []) rfl rfl)), (hg_18 4 (.int .i64 x_8) (.int .i64 x_8) (show s_17 4 = (.int .i64 x_8) from keep_app ha_17 (keep_clear (s := s) (pk := [18, 19]) h4 rfl rfl) rfl) rfl)⟩ ?_
        rintro s ⟨h0, h2, h3, h4⟩
        exact t_f121_j1 H set_1 x_8 (i_setOf_l1 F set_1 k) ih (.of ap_18) _ ⟨h0, h2, h3, h4⟩ h
      · refine .skip ?_
        exact t_f121_j1 H set_1 x_8 (i_setOf_l1 F set_1 k) ih list_7 _ ⟨h0, h2, h3, h4⟩ h
    · refine .exit ?_
      refine .esq ?_
      refine .elp ?_
      refine .ebk ?_
      refine .nsq ?_
      refine .seq ?_
      refine run_reg ?_
      refine e_end ?_
      refine g_v (encO (.at 3 []) (list_7 : NL Int)) (ev_mov h3 ok_encO) ?_
      refine g_v (encO (.at 3 []) (list_7 : NL Int)) (ev_mov rfl ok_encO) ?_
      refine g_end ?_
      refine e_home (r := 3) (x := 2) (v := (encO (.at 3 []) (list_7 : NL Int))) (by exact rfl) ok_encO (fun s_19 hg_19 => ?_)
      refine e_end ?_
      refine renew [(2, (encO (.at 2 []) (list_7 : NL Int)))] (hg_19 2 (encO (.at 3 []) (list_7 : NL Int)) (encO (.at 2 []) (list_7 : NL Int)) rfl (map_encO (r := 3) (p := []) rfl rfl)) ?_
      rintro s h2
      refine .nsq ?_
      refine .ret ?_
      have hr := Option.some.inj h
      subst hr
      exact rrA (res_tmp h2) (fin_retF (fin_own (o := list_7)) (mine_own rfl))
def i_setOf (F : Nat) (set_1 : Int) : Option (List Int) :=
  i_setOf_l1 F set_1 F .nil 0
theorem t121 (H : H121 D σ F) (set_1 : Int) (s : Nat → V) (hs : Facts [(0, (.int .i64 set_1))] s) (h : i_setOf F set_1 = some r) : Run D σ (R121 r) (.run A121 []) s := by
  unfold i_setOf at h
  have h0 := hs
  refine .seq ?_
  refine run_reg ?_
  refine e_end ?_
  refine g_v0 (.sl .nl (Enc.shp Int) 0 []) rfl rfl ?_
  refine g_end ?_
  refine e_end ?_
  refine renew [(0, (.int .i64 set_1)), (2, (.sl .nl (Enc.shp Int) 0 []))] ⟨h0, rfl⟩ ?_
  rintro s ⟨h0, h2⟩
  refine .nsq ?_
  refine .seq ?_
  refine run_reg ?_
  refine e_end ?_
  refine g_v0 (.sl .nl (Enc.shp Int) 0 []) rfl rfl ?_
  refine g_end ?_
  refine e_end ?_
  refine renew [(0, (.int .i64 set_1)), (2, (.sl .nl (Enc.shp Int) 0 [])), (3, (.sl .nl (Enc.shp Int) 0 []))] ⟨h0, h2, rfl⟩ ?_
  rintro s ⟨h0, h2, h3⟩
  refine .nsq ?_
  refine .seq ?_
  refine .seq ?_
  refine run_reg ?_
  refine e_end ?_
  refine g_v0 (.int .i64 0) rfl rfl ?_
  refine g_end ?_
  refine e_end ?_
  refine renew [(0, (.int .i64 set_1)), (2, (.sl .nl (Enc.shp Int) 0 [])), (3, (.sl .nl (Enc.shp Int) 0 [])), (4, (.int .i64 0))] ⟨h0, h2, h3, rfl⟩ ?_
  rintro s ⟨h0, h2, h3, h4⟩
  refine .nsq ?_
  refine .block ?_
  refine .loop ?_
  exact t_f121_l1 H set_1 F .nil 0 _ ⟨h0, h2, h3, h4⟩ h
end
def e121 (F : Nat) : Ent := ⟨121, da (fun (x : (Int × Unit)) => i_setOf F x.1) (fun (r : (List Int)) => (Enc.enc (r : (List Int)))), 0, false, selF []⟩
theorem p121 {F : Nat} {x0 : Int} {r : (List Int)} (h : i_setOf F x0 = some r) : (e121 F).den [Enc.enc x0] = some (Enc.enc (r : (List Int))) := da_put (f := fun (x : (Int × Unit)) => i_setOf F x.1) (t := fun (r : (List Int)) => (Enc.enc (r : (List Int)))) (x0, ()) h
theorem o121 {D : Den} {σ : Sig} {F : Nat} (hF : Fits2 Try.prog D σ) (H : H121 D σ F) : (e121 F).Ok Try.prog := by
  refine ok_of (f := 121) (show unk 121 = 121 from rfl) (fun args r h => ?_) ⟨Try.f121, Try.func121, rfl, rfl⟩
  obtain ⟨⟨x0, _⟩, y, rfl, hy, rfl⟩ := da_open h
  exact contract_run hF (by kernel_rfl) Try.func121 rfl c121 (show 1 ≤ Try.f121.ntmps by decide) (t121 H x0 _ rfl hy)
/- slices.Clone[[]int,int] -/
shelf_lay Lays2.n15 Nm2 15 at Try as Lay142o
structure H142o (D : Den) (σ : Sig) (F : Nat) : Prop where
  mk ::
def slices_Clone_o (F : Nat) (s_1 : (List Int)) : Option (NL Int) :=
  cloneO s_1
def e142o (F : Nat) : Ent := ⟨1000000142, da (fun (x : ((List Int) × Unit)) => slices_Clone_o F x.1) (fun (r : (NL Int)) => (encO .sh (r : NL Int))), 1, false, selF []⟩
theorem p142o {F : Nat} {x0 : (List Int)} {r : (NL Int)} (h : slices_Clone_o F x0 = some r) : (e142o F).den [Enc.enc x0] = some (encO .sh (r : NL Int)) := da_put (f := fun (x : ((List Int) × Unit)) => slices_Clone_o F x.1) (t := fun (r : (NL Int)) => (encO .sh (r : NL Int))) (x0, ()) h
theorem o142o {D : Den} {σ : Sig} {F : Nat} (hF : Fits2 Try.prog D σ) (H : H142o D σ F) : (e142o F).Ok Try.prog := by
  refine ok_of (f := 142) (show unk 1000000142 = 142 from rfl) (fun args r h => ?_) ⟨Try.f142, Try.func142, rfl, rfl⟩
  obtain ⟨⟨x0, _⟩, y, rfl, hy, rfl⟩ := da_open h
  exact con_plain (f := 142) (clone_conO Lay142o hy) rfl
/- (loop.example/g01109/impl.net).clone -/
def A140o_1 : AC := (AC.seq (AC.reg [.clr [5]] [(I.mk (some 3) none false (X.v (A.fld (O.t 1) 0 0))), (I.mk (some 4) none false (X.v (A.load Sh.p (O.t 3)))), (I.mk (some 5) none false (X.callO (O.k (V.fn 142 [] [])) [(O.t 4)])), (I.mk (some 6) none false (X.v (A.bld (V.agg [(V.sl Tok.nl Sh.s 0 [])]) [(0, 0, (O.t 5))]))), (I.mk none none false (X.store (Sh.ag [Sh.p]) (O.t 2) (O.t 6)))] []) AC.ret)
def A140o : AC := (AC.seq (AC.reg [.clr [1, 2]] [(I.mk (some 1) none false (X.box (O.t 0))), (I.mk (some 2) none false (X.alloc (V.agg [(V.sl Tok.nl Sh.s 0 [])])))] []) A140o_1)
def an140o : List An := [{ id := 0, pre := [.clr [1, 2]], ep := [], lin := [], sp := [] }, { id := 1, pre := [.clr [5]], ep := [], lin := [], sp := [1002] }]
theorem c140o : cC Try.prog Try.f140.ntmps an140o (Try.f140.body.getD .skip) = some A140o := by kernel_rfl
structure H140o (D : Den) (σ : Sig) (F : Nat) : Prop where
  c142o : ∀ (x0 : (List Int)) r, slices_Clone_o F x0 = some r → D 1000000142 [Enc.enc x0] = some (encO .sh (r : NL Int))
  g142o : σ 1000000142 = some (1, false)
abbrev R140o (r : (S1 (NL Int))) : (Nat → V) → Prop := RR Try.prog [.cell 2 56] 1 false (.agg [(encO .sh (r.a : NL Int))])
section
variable {D : Den} {σ : Sig} {F : Nat} {r : (S1 (NL Int))}
def i_net_clone_o (F : Nat) (w_1 : (S1 (List Int))) : Option (S1 (NL Int)) :=
  (slices_Clone_o F w_1.a).bind fun r_2 =>
  some (S1.mk r_2)
theorem t140o (H : H140o D σ F) (w_1 : (S1 (List Int))) (s : Nat → V) (hs : Facts [(0, (.agg [(Enc.enc (w_1.a : List Int))]))] s) (h : i_net_clone_o F w_1 = some r) : Run D σ (R140o r) (.run A140o []) s := by
  unfold i_net_clone_o at h
  have h0 := hs
  refine .seq ?_
  refine run_reg ?_
  refine e_clr ?_
  refine e_end ?_
  refine g_box (.agg [(Enc.enc (w_1.a : List Int))]) (rd_of (keep_clear (s := s) (pk := [1, 2]) h0 rfl (map_agg (maps_cons (Enc.map_enc _ (w_1.a : List Int)) maps_nil))) rfl) (gone_clear (s := s) (pk := [1, 2]) (t := 1) rfl) rfl ?_
  refine g_alloc (gone_clear (s := s) (pk := [1, 2]) (t := 2) rfl) ?_
  refine g_end ?_
  refine e_end ?_
  refine renew [(1, (.ref (.bx 1) 0 [] (.agg [(Enc.enc (w_1.a : List Int))]))), (2, (.ref (.bx 2) 0 [] (.agg [(.sl .nl (Enc.shp Int) 0 [])])))] ⟨rfl, rfl⟩ ?_
  rintro s ⟨h1, h2⟩
  refine .nsq ?_
  refine .seq ?_
  refine run_reg ?_
  refine e_clr ?_
  refine e_end ?_
  refine g_v1 (t := 1) (u := (.ref (.bx 1) 0 [] (.agg [(Enc.enc (w_1.a : List Int))]))) (.ref (.bx 1) 0 [0] (Enc.enc (w_1.a : List Int))) (keep_clear (s := s) (pk := [5]) h1 rfl (map_bx rfl (map_agg (maps_cons (Enc.map_enc _ (w_1.a : List Int)) maps_nil)))) rfl rfl ?_
  refine g_v1 (t := 3) (u := (.ref (.bx 1) 0 [0] (Enc.enc (w_1.a : List Int)))) (Enc.enc (w_1.a : List Int)) rfl rfl rfl ?_
  obtain ⟨r_2, E_r_2, h⟩ := bind_some h
  refine g_callO (m := 1) (al := false) (r := (encO .sh (r_2 : NL Int))) (v := (encO (.at 5 []) (r_2 : NL Int))) (kk := 1000000142) [Enc.enc (w_1.a : (List Int))] (ta_cons (v := (Enc.enc (w_1.a : List Int))) rfl rfl (Enc.erase_enc (w_1.a : (List Int))) ta_nil) (H.c142o _ _ E_r_2) H.g142o rfl toks_encS tag_encO ok_encP (gone_clear (s := s) (pk := [5]) (t := 5) rfl) ?_
  refine g_v (.agg [(encO (.at 5 []) (r_2 : NL Int))]) (ev_bldN rfl) ?_
  refine g_store (.agg [(encO (.at 5 []) (r_2 : NL Int))]) (rd_of (keep_clear (s := s) (pk := [5]) h2 rfl (map_bx rfl (map_agg (maps_cons rfl maps_nil)))) rfl) (rd_of rfl rfl) ⟨by decide, by decide, rfl, (by simp [V.shape, V.shapes, shape_encP, Sh.beq, Sh.beqs]), (by simp [V.shape, V.shapes, shape_encP, Sh.beq, Sh.beqs]), (by simp [V.toks, V.tokss, tok_memP])⟩ ?_
  refine g_end ?_
  refine e_end ?_
  refine renew [(2, (.ref (.bx 2) 0 [] (.agg [(encO (.at 5 []) (r_2 : NL Int))])))] (keep_mut (keep_clear (s := s) (pk := [5]) h2 rfl (map_bx rfl (map_agg (maps_cons rfl maps_nil)))) rfl) ?_
  rintro s h2
  refine .nsq ?_
  refine .ret ?_
  have hr := Option.some.inj h
  subst hr
  exact rrA (res_cell h2 (by simp only [V.shape, V.shapes, shape_encP]; kernel_rfl)) (fin_retO (finO_agg (finOs_cons (finO_own (o := (r_2 : NL Int))) finOs_nil)) rfl (mine_agg (mines_cons (mine_own rfl) mines_nil)))
end
def e140o (F : Nat) : Ent := ⟨1000000140, da (fun (x : ((S1 (List Int)) × Unit)) => i_net_clone_o F x.1) (fun (r : (S1 (NL Int))) => (.agg [(encO .sh (r.a : NL Int))])), 1, false, selF []⟩
theorem p140o {F : Nat} {x0 : (S1 (List Int))} {r : (S1 (NL Int))} (h : i_net_clone_o F x0 = some r) : (e140o F).den [Enc.enc x0] = some (.agg [(encO .sh (r.a : NL Int))]) := da_put (f := fun (x : ((S1 (List Int)) × Unit)) => i_net_clone_o F x.1) (t := fun (r : (S1 (NL Int))) => (.agg [(encO .sh (r.a : NL Int))])) (x0, ()) h
theorem o140o {D : Den} {σ : Sig} {F : Nat} (hF : Fits2 Try.prog D σ) (H : H140o D σ F) : (e140o F).Ok Try.prog := by
  refine ok_of (f := 140) (show unk 1000000140 = 140 from rfl) (fun args r h => ?_) ⟨Try.f140, Try.func140, rfl, rfl⟩
  obtain ⟨⟨x0, _⟩, y, rfl, hy, rfl⟩ := da_open h
  exact contract_run hF (by kernel_rfl) Try.func140 rfl c140o (show 1 ≤ Try.f140.ntmps by decide) (t140o H x0 _ rfl hy)
end Go.Zq
