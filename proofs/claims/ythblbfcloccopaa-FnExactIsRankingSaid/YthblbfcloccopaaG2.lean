/- Functions of the program as typed functions, and that the machine runs as they say (part 2). No further condition. -/
import Derived.Test.YthblbfcloccopaaK3
import Derived.Test.YthblbfcloccopaaProg
import Derived.Test.YthblbfcloccopaaChecked
import Derived.KernelRfl
import Derived.Test.YthblbfcloccopaaG1
set_option linter.unusedVariables false
set_option linter.unusedSimpArgs false
/- Functions of the program, as typed functions, and that the machine runs as they say. -/
namespace Go.Zq
open Go.Proofs
/- loop.example/g01109/spec.IsRanking -/
def A32_2 : AC := (AC.cond (O.t 20) AC.skip (AC.exit 0))
def A32_4 : AC := (AC.cond (O.t 27) (AC.seq (AC.reg [] [(I.mk (some 4) none false (X.v (A.mov (O.k (V.bool false))))), (I.mk (some 5) none false (X.v (A.mov (O.k (V.bool true)))))] []) AC.ret) AC.skip)
def A32_9 : AC := (AC.cond (O.t 40) AC.skip (AC.exit 2))
def A32_11 : AC := (AC.cond (O.t 62) (AC.seq (AC.reg [] [(I.mk (some 4) none false (X.v (A.mov (O.k (V.bool false))))), (I.mk (some 5) none false (X.v (A.mov (O.k (V.bool true)))))] []) AC.ret) AC.skip)
def A32_12 : AC := (AC.reg [] [(I.mk (some 41) none false (X.v (A.mov (O.t 8)))), (I.mk (some 42) none false (X.v (A.bin BinOp.add (O.t 41) (O.k (V.int IntKind.i64 (Int.ofNat 1)))))), (I.mk (some 8) none false (X.v (A.mov (O.t 42))))] [])
def A32_10 : AC := (AC.seq (AC.block 3 (AC.seq (AC.reg [] [(I.mk (some 43) none false (X.v (A.mov (O.t 7)))), (I.mk (some 44) none false (X.v (A.mov (O.t 8)))), (I.mk (some 45) none false (X.v (A.idx (O.t 43) (O.t 44) 1))), (I.mk (some 46) none false (X.v (A.load Sh.s (O.t 45)))), (I.mk (some 47) none false (X.v (A.mov (O.t 6)))), (I.mk (some 48) none false (X.v (A.bin BinOp.neq (O.t 46) (O.t 47)))), (I.mk (some 49) none false (X.v (A.mov (O.t 48)))), (I.mk (some 50) (some (49, true)) false (X.v (A.mov (O.t 1)))), (I.mk (some 51) (some (49, true)) false (X.v (A.mov (O.t 7)))), (I.mk (some 52) (some (49, true)) false (X.v (A.mov (O.t 8)))), (I.mk (some 53) (some (49, true)) false (X.v (A.idx (O.t 51) (O.t 52) 1))), (I.mk (some 54) (some (49, true)) false (X.v (A.load Sh.s (O.t 53)))), (I.mk (some 55) (some (49, true)) false (X.v (A.idx (O.t 50) (O.t 54) 1))), (I.mk (some 56) (some (49, true)) false (X.v (A.load Sh.s (O.t 55)))), (I.mk (some 57) (some (49, true)) false (X.v (A.mov (O.t 1)))), (I.mk (some 58) (some (49, true)) false (X.v (A.mov (O.t 6)))), (I.mk (some 59) (some (49, true)) false (X.v (A.idx (O.t 57) (O.t 58) 1))), (I.mk (some 60) (some (49, true)) false (X.v (A.load Sh.s (O.t 59)))), (I.mk (some 61) (some (49, true)) false (X.v (A.bin BinOp.eql (O.t 56) (O.t 60)))), (I.mk (some 62) none false (X.v (A.pick (O.t 49) (O.t 61) (O.k (V.bool false)))))] []) A32_11)) A32_12)
def A32_8 : AC := (AC.seq (AC.seq (AC.reg [] [(I.mk (some 37) none false (X.v (A.mov (O.t 8)))), (I.mk (some 38) none false (X.v (A.mov (O.t 7)))), (I.mk (some 39) none false (X.v (A.len (O.t 38)))), (I.mk (some 40) none false (X.v (A.bin BinOp.lss (O.t 37) (O.t 39))))] []) A32_9) A32_10)
def A32_7 : AC := (AC.block 2 (AC.loop A32_8))
def A32_6 : AC := (AC.seq (AC.reg [] [(I.mk (some 8) none false (X.v (A.mov (O.k (V.int IntKind.i64 (Int.ofNat 0))))))] []) A32_7)
def A32_5 : AC := (AC.seq (AC.reg [] [(I.mk (some 28) none false (X.v (A.load (Sh.ag [Sh.s, Sh.p]) (O.t 2)))), (I.mk (some 29) none false (X.v (A.mov (O.t 1)))), (I.mk (some 30) none false (X.v (A.mov (O.t 1)))), (I.mk (some 31) none false (X.v (A.mov (O.t 6)))), (I.mk (some 32) none false (X.v (A.idx (O.t 30) (O.t 31) 1))), (I.mk (some 33) none false (X.v (A.load Sh.s (O.t 32)))), (I.mk (some 34) none false (X.call (O.k (V.fn 73 [] [])) [(O.t 29), (O.t 33)])), (I.mk (some 35) none false (X.v (A.mov (O.t 6)))), (I.mk (some 36) none false (X.call (O.k (V.fn 72 [] [])) [(O.t 28), (O.t 34), (O.t 35)])), (I.mk (some 7) none false (X.v (A.mov (O.t 36))))] []) A32_6)
def A32_13 : AC := (AC.reg [] [(I.mk (some 21) none false (X.v (A.mov (O.t 6)))), (I.mk (some 22) none false (X.v (A.bin BinOp.add (O.t 21) (O.k (V.int IntKind.i64 (Int.ofNat 1)))))), (I.mk (some 6) none false (X.v (A.mov (O.t 22))))] [])
def A32_3 : AC := (AC.seq (AC.block 1 (AC.seq (AC.seq (AC.reg [] [(I.mk (some 23) none false (X.v (A.mov (O.t 1)))), (I.mk (some 24) none false (X.v (A.mov (O.t 6)))), (I.mk (some 25) none false (X.v (A.idx (O.t 23) (O.t 24) 1))), (I.mk (some 26) none false (X.v (A.load Sh.s (O.t 25)))), (I.mk (some 27) none false (X.v (A.bin BinOp.lss (O.t 26) (O.k (V.int IntKind.i64 (Int.ofNat 1))))))] []) A32_4) A32_5)) A32_13)
def A32_1 : AC := (AC.seq (AC.seq (AC.reg [] [(I.mk (some 17) none false (X.v (A.mov (O.t 6)))), (I.mk (some 18) none false (X.v (A.fld (O.t 2) 0 0))), (I.mk (some 19) none false (X.v (A.load Sh.s (O.t 18)))), (I.mk (some 20) none false (X.v (A.bin BinOp.lss (O.t 17) (O.t 19))))] []) A32_2) A32_3)
def A32_14 : AC := (AC.seq (AC.reg [] [(I.mk (some 4) none false (X.v (A.mov (O.k (V.bool true))))), (I.mk (some 5) none false (X.v (A.mov (O.k (V.bool true)))))] []) AC.ret)
def A32_16 : AC := (AC.cond (O.t 11) (AC.seq (AC.reg [] [(I.mk (some 4) none false (X.v (A.mov (O.k (V.bool false))))), (I.mk (some 5) none false (X.v (A.mov (O.k (V.bool false)))))] []) AC.ret) AC.skip)
def A32_18 : AC := (AC.cond (O.t 16) (AC.seq (AC.reg [] [(I.mk (some 4) none false (X.v (A.mov (O.k (V.bool false))))), (I.mk (some 5) none false (X.v (A.mov (O.k (V.bool true)))))] []) AC.ret) AC.skip)
def A32_20 : AC := (AC.block 0 (AC.loop A32_1))
def A32_19 : AC := (AC.seq (AC.seq (AC.reg [] [(I.mk (some 6) none false (X.v (A.mov (O.k (V.int IntKind.i64 (Int.ofNat 0))))))] []) A32_20) A32_14)
def A32_17 : AC := (AC.seq (AC.seq (AC.reg [] [(I.mk (some 12) none false (X.v (A.mov (O.t 1)))), (I.mk (some 13) none false (X.v (A.len (O.t 12)))), (I.mk (some 14) none false (X.v (A.fld (O.t 2) 0 0))), (I.mk (some 15) none false (X.v (A.load Sh.s (O.t 14)))), (I.mk (some 16) none false (X.v (A.bin BinOp.neq (O.t 13) (O.t 15))))] []) A32_18) A32_19)
def A32_15 : AC := (AC.seq (AC.seq (AC.reg [] [(I.mk (some 9) none false (X.v (A.load (Sh.ag [Sh.s, Sh.p]) (O.t 2)))), (I.mk (some 10) none false (X.call (O.k (V.fn 45 [] [])) [(O.t 9)])), (I.mk (some 11) none false (X.v (A.un UnOp.not (O.t 10))))] []) A32_16) A32_17)
def A32 : AC := (AC.seq (AC.reg [.clr [2]] [(I.mk (some 2) none false (X.box (O.t 0))), (I.mk (some 4) none false (X.v (A.mov (O.k (V.bool false))))), (I.mk (some 5) none false (X.v (A.mov (O.k (V.bool false)))))] []) A32_15)
def an32 : List An := [{ id := 0, pre := [.clr [2]], ep := [], lin := [], sp := [] }]
theorem c32 : cC Try.prog Try.f32.ntmps an32 (Try.f32.body.getD .skip) = some A32 := by kernel_rfl
structure H32 (D : Den) (σ : Sig) (F : Nat) : Prop where
  c45 : ∀ (x0 : (Int × (List (Int × Int)))) r, s_l2Good F x0 = some r → D 45 [Enc.enc x0] = some (Enc.enc (r : Bool))
  g45 : σ 45 = some (0, false)
  c73 : ∀ (x0 : (List Int)) (x1 : Int) r, s_l7Low F x0 x1 = some r → D 73 [Enc.enc x0, Enc.enc x1] = some (Enc.enc (r : (List Int)))
  g73 : σ 73 = some (0, false)
  c72 : ∀ (x0 : (Int × (List (Int × Int)))) (x1 : (List Int)) (x2 : Int) r, s_l2Reach F x0 x1 x2 = some r → D 72 [Enc.enc x0, Enc.enc x1, Enc.enc x2] = some (Enc.enc (r : (List Int)))
  g72 : σ 72 = some (0, true)
abbrev R32 (r : (Bool × Bool)) : (Nat → V) → Prop := RR Try.prog [.tmp 4, .tmp 5] 0 false (.tup [Enc.enc (r.1 : Bool), Enc.enc (r.2 : Bool)])
section
variable {D : Den} {σ : Sig} {F : Nat} {r : (Bool × Bool)}
def s_IsRanking_j1 (F : Nat) (ranks_2 : (List Int)) (g_1 : (Int × (List (Int × Int)))) (x_36 : Int) (r_72 : (List Int)) (i_82 : Int) (c1 : Int → Option (Bool × Bool)) (c4 : Int → Option (Bool × Bool)) (t62_96 : Bool) : Option (Bool × Bool) :=
  bif t62_96 then
    some (false, true)
  else
    c4 (w64 (i_82 + 1))
theorem t_f32_j1 (H : H32 D σ F) (ranks_2 : (List Int)) (g_1 : (Int × (List (Int × Int)))) (x_36 : Int) (r_72 : (List Int)) (i_82 : Int) (c1 : Int → Option (Bool × Bool)) (Hc1 : ∀ (x_36 : Int) (s : Nat → V), Facts [(1, (Enc.enc (ranks_2 : List Int))), (2, (.ref (.bx 2) 0 [] (.agg [(.int .i64 g_1.1), (Enc.enc (g_1.2 : List (Int × Int)))]))), (4, (.bool false)), (5, (.bool false)), (6, (.int .i64 x_36))] s → c1 x_36 = some r → Run D σ (R32 r) (.run A32_1 [.lp A32_1, .bk 0, .sq A32_14]) s) (c4 : Int → Option (Bool × Bool)) (Hc4 : ∀ (i_82 : Int) (s : Nat → V), Facts [(1, (Enc.enc (ranks_2 : List Int))), (2, (.ref (.bx 2) 0 [] (.agg [(.int .i64 g_1.1), (Enc.enc (g_1.2 : List (Int × Int)))]))), (4, (.bool false)), (5, (.bool false)), (6, (.int .i64 x_36)), (7, (Enc.enc (r_72 : List Int))), (8, (.int .i64 i_82))] s → c4 i_82 = some r → Run D σ (R32 r) (.run A32_8 [.lp A32_8, .bk 2, .bk 1, .sq A32_13, .lp A32_1, .bk 0, .sq A32_14]) s) (t62_96 : Bool) (s : Nat → V) (hs : Facts [(1, (Enc.enc (ranks_2 : List Int))), (2, (.ref (.bx 2) 0 [] (.agg [(.int .i64 g_1.1), (Enc.enc (g_1.2 : List (Int × Int)))]))), (4, (.bool false)), (5, (.bool false)), (6, (.int .i64 x_36)), (7, (Enc.enc (r_72 : List Int))), (8, (.int .i64 i_82)), (62, (.bool t62_96))] s) (h : s_IsRanking_j1 F ranks_2 g_1 x_36 r_72 i_82 c1 c4 t62_96 = some r) : Run D σ (R32 r) (.nrm [.sq A32_11, .bk 3, .sq A32_12, .lp A32_8, .bk 2, .bk 1, .sq A32_13, .lp A32_1, .bk 0, .sq A32_14]) s := by
  unfold s_IsRanking_j1 at h
  obtain ⟨h1, h2, h4, h5, h6, h7, h8, h62⟩ := hs
  refine .nsq ?_
  refine run_cond (t := t62_96) h62 h (fun h => ?_) (fun h => ?_)
  · refine .seq ?_
    refine run_reg ?_
    refine e_end ?_
    refine g_v0 (.bool false) rfl rfl ?_
    refine g_v0 (.bool true) rfl rfl ?_
    refine g_end ?_
    refine e_end ?_
    refine renew [(1, (Enc.enc (ranks_2 : List Int))), (2, (.ref (.bx 2) 0 [] (.agg [(.int .i64 g_1.1), (Enc.enc (g_1.2 : List (Int × Int)))]))), (4, (.bool false)), (5, (.bool true)), (6, (.int .i64 x_36)), (7, (Enc.enc (r_72 : List Int))), (8, (.int .i64 i_82))] ⟨h1, h2, rfl, rfl, h6, h7, h8⟩ ?_
    rintro s ⟨h1, h2, h4, h5, h6, h7, h8⟩
    refine .nsq ?_
    refine .ret ?_
    have hr := Option.some.inj h
    subst hr
    exact rrB (res_tmp h4) (res_tmp h5) rfl
  · refine .skip ?_
    refine .nbk ?_
    refine .nsq ?_
    refine run_reg ?_
    refine e_end ?_
    refine g_v1 (t := 8) (u := (.int .i64 i_82)) (.int .i64 i_82) h8 rfl rfl ?_
    refine g_v1 (t := 41) (u := (.int .i64 i_82)) (.int .i64 (w64 (i_82 + 1))) rfl rfl rfl ?_
    refine g_v1 (t := 42) (u := (.int .i64 (w64 (i_82 + 1)))) (.int .i64 (w64 (i_82 + 1))) rfl rfl rfl ?_
    refine g_end ?_
    refine e_end ?_
    refine renew [(1, (Enc.enc (ranks_2 : List Int))), (2, (.ref (.bx 2) 0 [] (.agg [(.int .i64 g_1.1), (Enc.enc (g_1.2 : List (Int × Int)))]))), (4, (.bool false)), (5, (.bool false)), (6, (.int .i64 x_36)), (7, (Enc.enc (r_72 : List Int))), (8, (.int .i64 (w64 (i_82 + 1))))] ⟨h1, h2, h4, h5, h6, h7, rfl⟩ ?_
    rintro s ⟨h1, h2, h4, h5, h6, h7, h8⟩
    refine .nlp ?_
    exact Hc4 (w64 (i_82 + 1)) _ ⟨h1, h2, h4, h5, h6, h7, h8⟩ h
def s_IsRanking_l1 (F : Nat) (ranks_2 : (List Int)) (g_1 : (Int × (List (Int × Int)))) (x_36 : Int) (r_72 : (List Int)) (c1 : Int → Option (Bool × Bool)) : Nat → Int → Option (Bool × Bool)
  | 0, _ => none
  | k + 1, i_82 =>
    bif decide (i_82 < (r_72.length : Int)) then
      (idx r_72 i_82).bind fun e_97 =>
      bif (e_97 != x_36) then
        (idx r_72 i_82).bind fun e_98 =>
        (idx ranks_2 e_98).bind fun e_99 =>
        (idx ranks_2 x_36).bind fun e_100 =>
        s_IsRanking_j1 F ranks_2 g_1 x_36 r_72 i_82 c1 (s_IsRanking_l1 F ranks_2 g_1 x_36 r_72 c1 k) (e_99 == e_100)
      else
        s_IsRanking_j1 F ranks_2 g_1 x_36 r_72 i_82 c1 (s_IsRanking_l1 F ranks_2 g_1 x_36 r_72 c1 k) false
    else
      c1 (w64 (x_36 + 1))
theorem t_f32_l1 (H : H32 D σ F) (ranks_2 : (List Int)) (g_1 : (Int × (List (Int × Int)))) (x_36 : Int) (r_72 : (List Int)) (c1 : Int → Option (Bool × Bool)) (Hc1 : ∀ (x_36 : Int) (s : Nat → V), Facts [(1, (Enc.enc (ranks_2 : List Int))), (2, (.ref (.bx 2) 0 [] (.agg [(.int .i64 g_1.1), (Enc.enc (g_1.2 : List (Int × Int)))]))), (4, (.bool false)), (5, (.bool false)), (6, (.int .i64 x_36))] s → c1 x_36 = some r → Run D σ (R32 r) (.run A32_1 [.lp A32_1, .bk 0, .sq A32_14]) s) : ∀ (k : Nat) (i_82 : Int) (s : Nat → V), Facts [(1, (Enc.enc (ranks_2 : List Int))), (2, (.ref (.bx 2) 0 [] (.agg [(.int .i64 g_1.1), (Enc.enc (g_1.2 : List (Int × Int)))]))), (4, (.bool false)), (5, (.bool false)), (6, (.int .i64 x_36)), (7, (Enc.enc (r_72 : List Int))), (8, (.int .i64 i_82))] s → s_IsRanking_l1 F ranks_2 g_1 x_36 r_72 c1 k i_82 = some r → Run D σ (R32 r) (.run A32_8 [.lp A32_8, .bk 2, .bk 1, .sq A32_13, .lp A32_1, .bk 0, .sq A32_14]) s := by
  intro k
  induction k with
  | zero => intro i_82 s _ h; exact nomatch (h : (none : Option _) = some r)
  | succ k ih =>
    intro i_82 s hs h
    rw [s_IsRanking_l1] at h
    obtain ⟨h1, h2, h4, h5, h6, h7, h8⟩ := hs
    refine .seq ?_
    refine .seq ?_
    refine run_reg ?_
    refine e_end ?_
    refine g_v1 (t := 8) (u := (.int .i64 i_82)) (.int .i64 i_82) h8 rfl rfl ?_
    refine g_v1 (t := 7) (u := (Enc.enc (r_72 : List Int))) (Enc.enc (r_72 : List Int)) h7 rfl rfl ?_
    refine g_v (.int .i64 (r_72.length : Int)) (ev_len (xs := r_72) rfl) ?_
    refine g_v2 (t1 := 37) (t2 := 39) (u1 := (.int .i64 i_82)) (u2 := (.int .i64 (r_72.length : Int))) (.bool (decide (i_82 < (r_72.length : Int)))) rfl rfl rfl rfl ?_
    refine g_end ?_
    refine e_end ?_
    refine renew [(1, (Enc.enc (ranks_2 : List Int))), (2, (.ref (.bx 2) 0 [] (.agg [(.int .i64 g_1.1), (Enc.enc (g_1.2 : List (Int × Int)))]))), (4, (.bool false)), (5, (.bool false)), (6, (.int .i64 x_36)), (7, (Enc.enc (r_72 : List Int))), (8, (.int .i64 i_82)), (40, (.bool (decide (i_82 < (r_72.length : Int)))))] ⟨h1, h2, h4, h5, h6, h7, h8, rfl⟩ ?_
    rintro s ⟨h1, h2, h4, h5, h6, h7, h8, h40⟩
    refine .nsq ?_
    refine run_cond (t := decide (i_82 < (r_72.length : Int))) h40 h (fun h => ?_) (fun h => ?_)
    · refine .skip ?_
      refine .nsq ?_
      refine .seq ?_
      refine .block ?_
      refine .seq ?_
      refine run_reg ?_
      refine e_end ?_
      refine g_v1 (t := 7) (u := (Enc.enc (r_72 : List Int))) (Enc.enc (r_72 : List Int)) h7 rfl rfl ?_
      refine g_v1 (t := 8) (u := (.int .i64 i_82)) (.int .i64 i_82) h8 rfl rfl ?_
      obtain ⟨e_97, E_e_97, h⟩ := bind_some h
      refine g_v (.ref .sh 0 [] (.int .i64 e_97)) (ev_idx (t := .sh) (lo := 0) (xs := r_72) rfl rfl E_e_97 rfl rfl) ?_
      refine g_v1 (t := 45) (u := (.ref .sh 0 [] (.int .i64 e_97))) (.int .i64 e_97) rfl rfl rfl ?_
      refine g_v1 (t := 6) (u := (.int .i64 x_36)) (.int .i64 x_36) h6 rfl rfl ?_
      refine g_v2 (t1 := 46) (t2 := 47) (u1 := (.int .i64 e_97)) (u2 := (.int .i64 x_36)) (.bool (e_97 != x_36)) rfl rfl rfl rfl ?_
      refine g_v1 (t := 48) (u := (.bool (e_97 != x_36))) (.bool (e_97 != x_36)) rfl rfl rfl ?_
      refine split_on (c := (e_97 != x_36)) h (fun hg7 h => ?_) (fun hg7 h => ?_)
      · refine g_yes (Eq.trans (b := .bool (e_97 != x_36)) rfl (congrArg V.bool hg7)) (g_v1 (t := 1) (u := (Enc.enc (ranks_2 : List Int))) (Enc.enc (ranks_2 : List Int)) h1 rfl rfl ?_)
        refine g_yes (Eq.trans (b := .bool (e_97 != x_36)) rfl (congrArg V.bool hg7)) (g_v1 (t := 7) (u := (Enc.enc (r_72 : List Int))) (Enc.enc (r_72 : List Int)) h7 rfl rfl ?_)
        refine g_yes (Eq.trans (b := .bool (e_97 != x_36)) rfl (congrArg V.bool hg7)) (g_v1 (t := 8) (u := (.int .i64 i_82)) (.int .i64 i_82) h8 rfl rfl ?_)
        obtain ⟨e_98, E_e_98, h⟩ := bind_some h
        refine g_yes (Eq.trans (b := .bool (e_97 != x_36)) rfl (congrArg V.bool hg7)) (g_v (.ref .sh 0 [] (.int .i64 e_98)) (ev_idx (t := .sh) (lo := 0) (xs := r_72) rfl rfl E_e_98 rfl rfl) ?_)
        refine g_yes (Eq.trans (b := .bool (e_97 != x_36)) rfl (congrArg V.bool hg7)) (g_v1 (t := 53) (u := (.ref .sh 0 [] (.int .i64 e_98))) (.int .i64 e_98) rfl rfl rfl ?_)
        obtain ⟨e_99, E_e_99, h⟩ := bind_some h
        refine g_yes (Eq.trans (b := .bool (e_97 != x_36)) rfl (congrArg V.bool hg7)) (g_v (.ref .sh 0 [] (.int .i64 e_99)) (ev_idx (t := .sh) (lo := 0) (xs := ranks_2) rfl rfl E_e_99 rfl rfl) ?_)
        refine g_yes (Eq.trans (b := .bool (e_97 != x_36)) rfl (congrArg V.bool hg7)) (g_v1 (t := 55) (u := (.ref .sh 0 [] (.int .i64 e_99))) (.int .i64 e_99) rfl rfl rfl ?_)
        refine g_yes (Eq.trans (b := .bool (e_97 != x_36)) rfl (congrArg V.bool hg7)) (g_v1 (t := 1) (u := (Enc.enc (ranks_2 : List Int))) (Enc.enc (ranks_2 : List Int)) h1 rfl rfl ?_)
        refine g_yes (Eq.trans (b := .bool (e_97 != x_36)) rfl (congrArg V.bool hg7)) (g_v1 (t := 6) (u := (.int .i64 x_36)) (.int .i64 x_36) h6 rfl rfl ?_)
        obtain ⟨e_100, E_e_100, h⟩ := bind_some h
        refine g_yes (Eq.trans (b := .bool (e_97 != x_36)) rfl (congrArg V.bool hg7)) (g_v (.ref .sh 0 [] (.int .i64 e_100)) (ev_idx (t := .sh) (lo := 0) (xs := ranks_2) rfl rfl E_e_100 rfl rfl) ?_)
        refine g_yes (Eq.trans (b := .bool (e_97 != x_36)) rfl (congrArg V.bool hg7)) (g_v1 (t := 59) (u := (.ref .sh 0 [] (.int .i64 e_100))) (.int .i64 e_100) rfl rfl rfl ?_)
        refine g_yes (Eq.trans (b := .bool (e_97 != x_36)) rfl (congrArg V.bool hg7)) (g_v2 (t1 := 56) (t2 := 60) (u1 := (.int .i64 e_99)) (u2 := (.int .i64 e_100)) (.bool (e_99 == e_100)) rfl rfl rfl rfl ?_)
        refine g_v2 (t1 := 49) (t2 := 61) (u1 := (.bool true)) (u2 := (.bool (e_99 == e_100))) (.bool (e_99 == e_100)) (Eq.trans (b := .bool (e_97 != x_36)) rfl (congrArg V.bool hg7)) rfl rfl rfl ?_
        refine g_end ?_
        refine e_end ?_
        refine renew [(1, (Enc.enc (ranks_2 : List Int))), (2, (.ref (.bx 2) 0 [] (.agg [(.int .i64 g_1.1), (Enc.enc (g_1.2 : List (Int × Int)))]))), (4, (.bool false)), (5, (.bool false)), (6, (.int .i64 x_36)), (7, (Enc.enc (r_72 : List Int))), (8, (.int .i64 i_82)), (62, (.bool (e_99 == e_100)))] ⟨h1, h2, h4, h5, h6, h7, h8, rfl⟩ ?_
        rintro s ⟨h1, h2, h4, h5, h6, h7, h8, h62⟩
        exact t_f32_j1 H ranks_2 g_1 x_36 r_72 i_82 c1 Hc1 (s_IsRanking_l1 F ranks_2 g_1 x_36 r_72 c1 k) ih (e_99 == e_100) _ ⟨h1, h2, h4, h5, h6, h7, h8, h62⟩ h
      · refine g_no (Eq.trans (b := .bool (e_97 != x_36)) rfl (congrArg V.bool hg7)) ?_
        refine g_no (Eq.trans (b := .bool (e_97 != x_36)) rfl (congrArg V.bool hg7)) ?_
        refine g_no (Eq.trans (b := .bool (e_97 != x_36)) rfl (congrArg V.bool hg7)) ?_
        refine g_no (Eq.trans (b := .bool (e_97 != x_36)) rfl (congrArg V.bool hg7)) ?_
        refine g_no (Eq.trans (b := .bool (e_97 != x_36)) rfl (congrArg V.bool hg7)) ?_
        refine g_no (Eq.trans (b := .bool (e_97 != x_36)) rfl (congrArg V.bool hg7)) ?_
        refine g_no (Eq.trans (b := .bool (e_97 != x_36)) rfl (congrArg V.bool hg7)) ?_
        refine g_no (Eq.trans (b := .bool (e_97 != x_36)) rfl (congrArg V.bool hg7)) ?_
        refine g_no (Eq.trans (b := .bool (e_97 != x_36)) rfl (congrArg V.bool hg7)) ?_
        refine g_no (Eq.trans (b := .bool (e_97 != x_36)) rfl (congrArg V.bool hg7)) ?_
        refine g_no (Eq.trans (b := .bool (e_97 != x_36)) rfl (congrArg V.bool hg7)) ?_
        refine g_no (Eq.trans (b := .bool (e_97 != x_36)) rfl (congrArg V.bool hg7)) ?_
        refine g_v2 (t1 := 49) (t2 := 61) (u1 := (.bool false)) (u2 := (.tup [])) (.bool false) (Eq.trans (b := .bool (e_97 != x_36)) rfl (congrArg V.bool hg7)) rfl rfl rfl ?_
        refine g_end ?_
        refine e_end ?_
        refine renew [(1, (Enc.enc (ranks_2 : List Int))), (2, (.ref (.bx 2) 0 [] (.agg [(.int .i64 g_1.1), (Enc.enc (g_1.2 : List (Int × Int)))]))), (4, (.bool false)), (5, (.bool false)), (6, (.int .i64 x_36)), (7, (Enc.enc (r_72 : List Int))), (8, (.int .i64 i_82)), (62, (.bool false))] ⟨h1, h2, h4, h5, h6, h7, h8, rfl⟩ ?_
        rintro s ⟨h1, h2, h4, h5, h6, h7, h8, h62⟩
        exact t_f32_j1 H ranks_2 g_1 x_36 r_72 i_82 c1 Hc1 (s_IsRanking_l1 F ranks_2 g_1 x_36 r_72 c1 k) ih false _ ⟨h1, h2, h4, h5, h6, h7, h8, h62⟩ h
    · refine .exit ?_
      refine .esq ?_
      refine .elp ?_
      refine .ebk ?_
      refine .nbk ?_
      refine .nsq ?_
      refine run_reg ?_
      refine e_end ?_
      refine g_v1 (t := 6) (u := (.int .i64 x_36)) (.int .i64 x_36) h6 rfl rfl ?_
      refine g_v1 (t := 21) (u := (.int .i64 x_36)) (.int .i64 (w64 (x_36 + 1))) rfl rfl rfl ?_
      refine g_v1 (t := 22) (u := (.int .i64 (w64 (x_36 + 1)))) (.int .i64 (w64 (x_36 + 1))) rfl rfl rfl ?_
      refine g_end ?_
      refine e_end ?_
      refine renew [(1, (Enc.enc (ranks_2 : List Int))), (2, (.ref (.bx 2) 0 [] (.agg [(.int .i64 g_1.1), (Enc.enc (g_1.2 : List (Int × Int)))]))), (4, (.bool false)), (5, (.bool false)), (6, (.int .i64 (w64 (x_36 + 1))))] ⟨h1, h2, h4, h5, rfl⟩ ?_
      rintro s ⟨h1, h2, h4, h5, h6⟩
      refine .nlp ?_
      exact Hc1 (w64 (x_36 + 1)) _ ⟨h1, h2, h4, h5, h6⟩ h
def s_IsRanking_l2 (F : Nat) (ranks_2 : (List Int)) (g_1 : (Int × (List (Int × Int))))  : Nat → Int → Option (Bool × Bool)
  | 0, _ => none
  | k + 1, x_36 =>
    bif decide (x_36 < g_1.1) then
      (idx ranks_2 x_36).bind fun e_69 =>
      bif decide (e_69 < 1) then
        some (false, true)
      else
        (idx ranks_2 x_36).bind fun e_70 =>
        (s_l7Low F ranks_2 e_70).bind fun r_71 =>
        (s_l2Reach F g_1 r_71 x_36).bind fun r_72 =>
        s_IsRanking_l1 F ranks_2 g_1 x_36 r_72 (s_IsRanking_l2 F ranks_2 g_1 k) F 0
    else
      some (true, true)
theorem t_f32_l2 (H : H32 D σ F) (ranks_2 : (List Int)) (g_1 : (Int × (List (Int × Int))))  : ∀ (k : Nat) (x_36 : Int) (s : Nat → V), Facts [(1, (Enc.enc (ranks_2 : List Int))), (2, (.ref (.bx 2) 0 [] (.agg [(.int .i64 g_1.1), (Enc.enc (g_1.2 : List (Int × Int)))]))), (4, (.bool false)), (5, (.bool false)), (6, (.int .i64 x_36))] s → s_IsRanking_l2 F ranks_2 g_1 k x_36 = some r → Run D σ (R32 r) (.run A32_1 [.lp A32_1, .bk 0, .sq A32_14]) s := by
  intro k
  induction k with
  | zero => intro x_36 s _ h; exact nomatch (h : (none : Option _) = some r)
  | succ k ih =>
    intro x_36 s hs h
    rw [s_IsRanking_l2] at h
    obtain ⟨h1, h2, h4, h5, h6⟩ := hs
    refine .seq ?_
    refine .seq ?_
    refine run_reg ?_
    refine e_end ?_
    refine g_v1 (t := 6) (u := (.int .i64 x_36)) (.int .i64 x_36) h6 rfl rfl ?_
    refine g_v1 (t := 2) (u := (.ref (.bx 2) 0 [] (.agg [(.int .i64 g_1.1), (Enc.enc (g_1.2 : List (Int × Int)))]))) (.ref (.bx 2) 0 [0] (.int .i64 g_1.1)) h2 rfl rfl ?_
    refine g_v1 (t := 18) (u := (.ref (.bx 2) 0 [0] (.int .i64 g_1.1))) (.int .i64 g_1.1) rfl rfl rfl ?_
    refine g_v2 (t1 := 17) (t2 := 19) (u1 := (.int .i64 x_36)) (u2 := (.int .i64 g_1.1)) (.bool (decide (x_36 < g_1.1))) rfl rfl rfl rfl ?_
    refine g_end ?_
    refine e_end ?_
    refine renew [(1, (Enc.enc (ranks_2 : List Int))), (2, (.ref (.bx 2) 0 [] (.agg [(.int .i64 g_1.1), (Enc.enc (g_1.2 : List (Int × Int)))]))), (4, (.bool false)), (5, (.bool false)), (6, (.int .i64 x_36)), (20, (.bool (decide (x_36 < g_1.1))))] ⟨h1, h2, h4, h5, h6, rfl⟩ ?_
    rintro s ⟨h1, h2, h4, h5, h6, h20⟩
    refine .nsq ?_
    refine run_cond (t := decide (x_36 < g_1.1)) h20 h (fun h => ?_) (fun h => ?_)
    · refine .skip ?_
      refine .nsq ?_
      refine .seq ?_
      refine .block ?_
      refine .seq ?_
      refine .seq ?_
      refine run_reg ?_
      refine e_end ?_
      refine g_v1 (t := 1) (u := (Enc.enc (ranks_2 : List Int))) (Enc.enc (ranks_2 : List Int)) h1 rfl rfl ?_
      refine g_v1 (t := 6) (u := (.int .i64 x_36)) (.int .i64 x_36) h6 rfl rfl ?_
      obtain ⟨e_69, E_e_69, h⟩ := bind_some h
      refine g_v (.ref .sh 0 [] (.int .i64 e_69)) (ev_idx (t := .sh) (lo := 0) (xs := ranks_2) rfl rfl E_e_69 rfl rfl) ?_
      refine g_v1 (t := 25) (u := (.ref .sh 0 [] (.int .i64 e_69))) (.int .i64 e_69) rfl rfl rfl ?_
      refine g_v1 (t := 26) (u := (.int .i64 e_69)) (.bool (decide (e_69 < 1))) rfl rfl rfl ?_
      refine g_end ?_
      refine e_end ?_
      refine renew [(1, (Enc.enc (ranks_2 : List Int))), (2, (.ref (.bx 2) 0 [] (.agg [(.int .i64 g_1.1), (Enc.enc (g_1.2 : List (Int × Int)))]))), (4, (.bool false)), (5, (.bool false)), (6, (.int .i64 x_36)), (27, (.bool (decide (e_69 < 1))))] ⟨h1, h2, h4, h5, h6, rfl⟩ ?_
      rintro s ⟨h1, h2, h4, h5, h6, h27⟩
      refine .nsq ?_
      refine run_cond (t := decide (e_69 < 1)) h27 h (fun h => ?_) (fun h => ?_)
      · refine .seq ?_
        refine run_reg ?_
        refine e_end ?_
        refine g_v0 (.bool false) rfl rfl ?_
        refine g_v0 (.bool true) rfl rfl ?_
        refine g_end ?_
        refine e_end ?_
        refine renew [(1, (Enc.enc (ranks_2 : List Int))), (2, (.ref (.bx 2) 0 [] (.agg [(.int .i64 g_1.1), (Enc.enc (g_1.2 : List (Int × Int)))]))), (4, (.bool false)), (5, (.bool true)), (6, (.int .i64 x_36))] ⟨h1, h2, rfl, rfl, h6⟩ ?_
        rintro s ⟨h1, h2, h4, h5, h6⟩
        refine .nsq ?_
        refine .ret ?_
        have hr := Option.some.inj h
        subst hr
        exact rrB (res_tmp h4) (res_tmp h5) rfl
      · refine .skip ?_
        refine .nsq ?_
        refine .seq ?_
        refine run_reg ?_
        refine e_end ?_
        refine g_v1 (t := 2) (u := (.ref (.bx 2) 0 [] (.agg [(.int .i64 g_1.1), (Enc.enc (g_1.2 : List (Int × Int)))]))) (.agg [(.int .i64 g_1.1), (Enc.enc (g_1.2 : List (Int × Int)))]) h2 rfl rfl ?_
        refine g_v1 (t := 1) (u := (Enc.enc (ranks_2 : List Int))) (Enc.enc (ranks_2 : List Int)) h1 rfl rfl ?_
        refine g_v1 (t := 1) (u := (Enc.enc (ranks_2 : List Int))) (Enc.enc (ranks_2 : List Int)) h1 rfl rfl ?_
        refine g_v1 (t := 6) (u := (.int .i64 x_36)) (.int .i64 x_36) h6 rfl rfl ?_
        obtain ⟨e_70, E_e_70, h⟩ := bind_some h
        refine g_v (.ref .sh 0 [] (.int .i64 e_70)) (ev_idx (t := .sh) (lo := 0) (xs := ranks_2) rfl rfl E_e_70 rfl rfl) ?_
        refine g_v1 (t := 32) (u := (.ref .sh 0 [] (.int .i64 e_70))) (.int .i64 e_70) rfl rfl rfl ?_
        obtain ⟨r_71, E_r_71, h⟩ := bind_some h
        refine g_call (m := 0) (al := false) (r := (Enc.enc (r_71 : (List Int)))) [Enc.enc (ranks_2 : (List Int)), Enc.enc (e_70 : Int)] (ta_cons (v := (Enc.enc (ranks_2 : List Int))) rfl rfl (Enc.erase_enc (ranks_2 : (List Int))) (ta_cons (v := (.int .i64 e_70)) rfl rfl rfl ta_nil)) (H.c73 _ _ _ E_r_71) H.g73 rfl rfl rfl rfl ?_
        refine g_v1 (t := 6) (u := (.int .i64 x_36)) (.int .i64 x_36) h6 rfl rfl ?_
        obtain ⟨r_72, E_r_72, h⟩ := bind_some h
        refine g_call (m := 0) (al := true) (r := (Enc.enc (r_72 : (List Int)))) [Enc.enc (g_1 : (Int × (List (Int × Int)))), Enc.enc (r_71 : (List Int)), Enc.enc (x_36 : Int)] (ta_cons (v := (.agg [(.int .i64 g_1.1), (Enc.enc (g_1.2 : List (Int × Int)))])) rfl rfl (Enc.erase_enc (g_1 : (Int × (List (Int × Int))))) (ta_cons (v := (Enc.enc (r_71 : List Int))) rfl rfl (Enc.erase_enc (r_71 : (List Int))) (ta_cons (v := (.int .i64 x_36)) rfl rfl rfl ta_nil))) (H.c72 _ _ _ _ E_r_72) H.g72 (hal_of (ht_cons (v := (.agg [(.int .i64 g_1.1), (Enc.enc (g_1.2 : List (Int × Int)))])) rfl rfl rfl (ht_cons (v := (Enc.enc (r_71 : List Int))) rfl rfl rfl (ht_cons (v := (.int .i64 x_36)) rfl rfl rfl ht_nil)))) rfl rfl rfl ?_
        refine g_v1 (t := 36) (u := (Enc.enc (r_72 : List Int))) (Enc.enc (r_72 : List Int)) rfl rfl rfl ?_
        refine g_end ?_
        refine e_end ?_
        refine renew [(1, (Enc.enc (ranks_2 : List Int))), (2, (.ref (.bx 2) 0 [] (.agg [(.int .i64 g_1.1), (Enc.enc (g_1.2 : List (Int × Int)))]))), (4, (.bool false)), (5, (.bool false)), (6, (.int .i64 x_36)), (7, (Enc.enc (r_72 : List Int)))] ⟨h1, h2, h4, h5, h6, rfl⟩ ?_
        rintro s ⟨h1, h2, h4, h5, h6, h7⟩
        refine .nsq ?_
        refine .seq ?_
        refine run_reg ?_
        refine e_end ?_
        refine g_v0 (.int .i64 0) rfl rfl ?_
        refine g_end ?_
        refine e_end ?_
        refine renew [(1, (Enc.enc (ranks_2 : List Int))), (2, (.ref (.bx 2) 0 [] (.agg [(.int .i64 g_1.1), (Enc.enc (g_1.2 : List (Int × Int)))]))), (4, (.bool false)), (5, (.bool false)), (6, (.int .i64 x_36)), (7, (Enc.enc (r_72 : List Int))), (8, (.int .i64 0))] ⟨h1, h2, h4, h5, h6, h7, rfl⟩ ?_
        rintro s ⟨h1, h2, h4, h5, h6, h7, h8⟩
        refine .nsq ?_
        refine .block ?_
        refine .loop ?_
        exact t_f32_l1 H ranks_2 g_1 x_36 r_72 (s_IsRanking_l2 F ranks_2 g_1 k) ih F 0 _ ⟨h1, h2, h4, h5, h6, h7, h8⟩ h
    · refine .exit ?_
      refine .esq ?_
      refine .elp ?_
      refine .ebk ?_
      refine .nsq ?_
      refine .seq ?_
      refine run_reg ?_
      refine e_end ?_
      refine g_v0 (.bool true) rfl rfl ?_
      refine g_v0 (.bool true) rfl rfl ?_
      refine g_end ?_
      refine e_end ?_
      refine renew [(4, (.bool true)), (5, (.bool true))] ⟨rfl, rfl⟩ ?_
      rintro s ⟨h4, h5⟩
      refine .nsq ?_
      refine .ret ?_
      have hr := Option.some.inj h
      subst hr
      exact rrB (res_tmp h4) (res_tmp h5) rfl
def s_IsRanking (F : Nat) (g_1 : (Int × (List (Int × Int)))) (ranks_2 : (List Int)) : Option (Bool × Bool) :=
  (s_l2Good F g_1).bind fun r_3 =>
  bif (!r_3) then
    some (false, false)
  else
    bif ((ranks_2.length : Int) != g_1.1) then
      some (false, true)
    else
      s_IsRanking_l2 F ranks_2 g_1 F 0
theorem t32 (H : H32 D σ F) (g_1 : (Int × (List (Int × Int)))) (ranks_2 : (List Int)) (s : Nat → V) (hs : Facts [(0, (.agg [(.int .i64 g_1.1), (Enc.enc (g_1.2 : List (Int × Int)))])), (1, (Enc.enc (ranks_2 : List Int)))] s) (h : s_IsRanking F g_1 ranks_2 = some r) : Run D σ (R32 r) (.run A32 []) s := by
  unfold s_IsRanking at h
  obtain ⟨h0, h1⟩ := hs
  refine .seq ?_
  refine run_reg ?_
  refine e_clr ?_
  refine e_end ?_
  refine g_box (.agg [(.int .i64 g_1.1), (Enc.enc (g_1.2 : List (Int × Int)))]) (rd_of (keep_clear (s := s) (pk := [2]) h0 rfl (map_agg (maps_cons rfl (maps_cons (Enc.map_enc _ (g_1.2 : List (Int × Int))) maps_nil)))) rfl) (gone_clear (s := s) (pk := [2]) (t := 2) rfl) rfl ?_
  refine g_v0 (.bool false) rfl rfl ?_
  refine g_v0 (.bool false) rfl rfl ?_
  refine g_end ?_
  refine e_end ?_
  refine renew [(1, (Enc.enc (ranks_2 : List Int))), (2, (.ref (.bx 2) 0 [] (.agg [(.int .i64 g_1.1), (Enc.enc (g_1.2 : List (Int × Int)))]))), (4, (.bool false)), (5, (.bool false))] ⟨(keep_clear (s := s) (pk := [2]) h1 rfl (Enc.map_enc _ (ranks_2 : List Int))), rfl, rfl, rfl⟩ ?_
  rintro s ⟨h1, h2, h4, h5⟩
  refine .nsq ?_
  refine .seq ?_
  refine .seq ?_
  refine run_reg ?_
  refine e_end ?_
  refine g_v1 (t := 2) (u := (.ref (.bx 2) 0 [] (.agg [(.int .i64 g_1.1), (Enc.enc (g_1.2 : List (Int × Int)))]))) (.agg [(.int .i64 g_1.1), (Enc.enc (g_1.2 : List (Int × Int)))]) h2 rfl rfl ?_
  obtain ⟨r_3, E_r_3, h⟩ := bind_some h
  refine g_call (m := 0) (al := false) (r := (Enc.enc (r_3 : Bool))) [Enc.enc (g_1 : (Int × (List (Int × Int))))] (ta_cons (v := (.agg [(.int .i64 g_1.1), (Enc.enc (g_1.2 : List (Int × Int)))])) rfl rfl (Enc.erase_enc (g_1 : (Int × (List (Int × Int))))) ta_nil) (H.c45 _ _ E_r_3) H.g45 rfl rfl rfl rfl ?_
  refine g_v1 (t := 10) (u := (.bool r_3)) (.bool (!r_3)) rfl rfl rfl ?_
  refine g_end ?_
  refine e_end ?_
  refine renew [(1, (Enc.enc (ranks_2 : List Int))), (2, (.ref (.bx 2) 0 [] (.agg [(.int .i64 g_1.1), (Enc.enc (g_1.2 : List (Int × Int)))]))), (4, (.bool false)), (5, (.bool false)), (11, (.bool (!r_3)))] ⟨h1, h2, h4, h5, rfl⟩ ?_
  rintro s ⟨h1, h2, h4, h5, h11⟩
  refine .nsq ?_
  refine run_cond (t := (!r_3)) h11 h (fun h => ?_) (fun h => ?_)
  · refine .seq ?_
    refine run_reg ?_
    refine e_end ?_
    refine g_v0 (.bool false) rfl rfl ?_
    refine g_v0 (.bool false) rfl rfl ?_
    refine g_end ?_
    refine e_end ?_
    refine renew [(1, (Enc.enc (ranks_2 : List Int))), (2, (.ref (.bx 2) 0 [] (.agg [(.int .i64 g_1.1), (Enc.enc (g_1.2 : List (Int × Int)))]))), (4, (.bool false)), (5, (.bool false))] ⟨h1, h2, rfl, rfl⟩ ?_
    rintro s ⟨h1, h2, h4, h5⟩
    refine .nsq ?_
    refine .ret ?_
    have hr := Option.some.inj h
    subst hr
    exact rrB (res_tmp h4) (res_tmp h5) rfl
  · refine .skip ?_
    refine .nsq ?_
    refine .seq ?_
    refine .seq ?_
    refine run_reg ?_
    refine e_end ?_
    refine g_v1 (t := 1) (u := (Enc.enc (ranks_2 : List Int))) (Enc.enc (ranks_2 : List Int)) h1 rfl rfl ?_
    refine g_v (.int .i64 (ranks_2.length : Int)) (ev_len (xs := ranks_2) rfl) ?_
    refine g_v1 (t := 2) (u := (.ref (.bx 2) 0 [] (.agg [(.int .i64 g_1.1), (Enc.enc (g_1.2 : List (Int × Int)))]))) (.ref (.bx 2) 0 [0] (.int .i64 g_1.1)) h2 rfl rfl ?_
    refine g_v1 (t := 14) (u := (.ref (.bx 2) 0 [0] (.int .i64 g_1.1))) (.int .i64 g_1.1) rfl rfl rfl ?_
    refine g_v2 (t1 := 13) (t2 := 15) (u1 := (.int .i64 (ranks_2.length : Int))) (u2 := (.int .i64 g_1.1)) (.bool ((ranks_2.length : Int) != g_1.1)) rfl rfl rfl rfl ?_
    refine g_end ?_
    refine e_end ?_
    refine renew [(1, (Enc.enc (ranks_2 : List Int))), (2, (.ref (.bx 2) 0 [] (.agg [(.int .i64 g_1.1), (Enc.enc (g_1.2 : List (Int × Int)))]))), (4, (.bool false)), (5, (.bool false)), (16, (.bool ((ranks_2.length : Int) != g_1.1)))] ⟨h1, h2, h4, h5, rfl⟩ ?_
    rintro s ⟨h1, h2, h4, h5, h16⟩
    refine .nsq ?_
    refine run_cond (t := ((ranks_2.length : Int) != g_1.1)) h16 h (fun h => ?_) (fun h => ?_)
    · refine .seq ?_
      refine run_reg ?_
      refine e_end ?_
      refine g_v0 (.bool false) rfl rfl ?_
      refine g_v0 (.bool true) rfl rfl ?_
      refine g_end ?_
      refine e_end ?_
      refine renew [(1, (Enc.enc (ranks_2 : List Int))), (2, (.ref (.bx 2) 0 [] (.agg [(.int .i64 g_1.1), (Enc.enc (g_1.2 : List (Int × Int)))]))), (4, (.bool false)), (5, (.bool true))] ⟨h1, h2, rfl, rfl⟩ ?_
      rintro s ⟨h1, h2, h4, h5⟩
      refine .nsq ?_
      refine .ret ?_
      have hr := Option.some.inj h
      subst hr
      exact rrB (res_tmp h4) (res_tmp h5) rfl
    · refine .skip ?_
      refine .nsq ?_
      refine .seq ?_
      refine .seq ?_
      refine run_reg ?_
      refine e_end ?_
      refine g_v0 (.int .i64 0) rfl rfl ?_
      refine g_end ?_
      refine e_end ?_
      refine renew [(1, (Enc.enc (ranks_2 : List Int))), (2, (.ref (.bx 2) 0 [] (.agg [(.int .i64 g_1.1), (Enc.enc (g_1.2 : List (Int × Int)))]))), (4, (.bool false)), (5, (.bool false)), (6, (.int .i64 0))] ⟨h1, h2, h4, h5, rfl⟩ ?_
      rintro s ⟨h1, h2, h4, h5, h6⟩
      refine .nsq ?_
      refine .block ?_
      refine .loop ?_
      exact t_f32_l2 H ranks_2 g_1 F 0 _ ⟨h1, h2, h4, h5, h6⟩ h
end
def e32 (F : Nat) : Ent := ⟨32, da (fun (x : ((Int × (List (Int × Int))) × (List Int) × Unit)) => s_IsRanking F x.1 x.2.1) (fun (r : (Bool × Bool)) => (.tup [Enc.enc (r.1 : Bool), Enc.enc (r.2 : Bool)])), 0, false, selF []⟩
theorem p32 {F : Nat} {x0 : (Int × (List (Int × Int)))} {x1 : (List Int)} {r : (Bool × Bool)} (h : s_IsRanking F x0 x1 = some r) : (e32 F).den [Enc.enc x0, Enc.enc x1] = some (.tup [Enc.enc (r.1 : Bool), Enc.enc (r.2 : Bool)]) := da_put (f := fun (x : ((Int × (List (Int × Int))) × (List Int) × Unit)) => s_IsRanking F x.1 x.2.1) (t := fun (r : (Bool × Bool)) => (.tup [Enc.enc (r.1 : Bool), Enc.enc (r.2 : Bool)])) (x0, x1, ()) h
theorem o32 {D : Den} {σ : Sig} {F : Nat} (hF : Fits2 Try.prog D σ) (H : H32 D σ F) : (e32 F).Ok Try.prog := by
  refine ok_of (f := 32) (show unk 32 = 32 from rfl) (fun args r h => ?_) ⟨Try.f32, Try.func32, rfl, rfl⟩
  obtain ⟨⟨x0, x1, _⟩, y, rfl, hy, rfl⟩ := da_open h
  exact contract_run hF (by kernel_rfl) Try.func32 rfl c32 (show 2 ≤ Try.f32.ntmps by decide) (t32 H x0 x1 _ ⟨rfl, rfl⟩ hy)
/- loop.example/g01109/impl.within -/
def A66_1 : AC := (AC.seq (AC.reg [] [(I.mk (some 7) none false (X.v (A.mov (O.t 0)))), (I.mk (some 8) none false (X.v (A.mov (O.t 1)))), (I.mk (some 9) none false (X.v (A.bin BinOp.geq (O.t 7) (O.t 8)))), (I.mk (some 10) none false (X.v (A.mov (O.t 9)))), (I.mk (some 11) (some (10, true)) false (X.v (A.mov (O.t 0)))), (I.mk (some 12) (some (10, true)) false (X.v (A.mov (O.t 2)))), (I.mk (some 13) (some (10, true)) false (X.v (A.bin BinOp.leq (O.t 11) (O.t 12)))), (I.mk (some 14) none false (X.v (A.pick (O.t 10) (O.t 13) (O.k (V.bool false))))), (I.mk (some 6) none false (X.v (A.mov (O.t 14))))] []) AC.ret)
def A66 : AC := (AC.seq (AC.reg [] [(I.mk (some 6) none false (X.v (A.mov (O.k (V.bool false)))))] []) A66_1)
def an66 : List An := []
theorem c66 : cC Try.prog Try.f66.ntmps an66 (Try.f66.body.getD .skip) = some A66 := by kernel_rfl
structure H66 (D : Den) (σ : Sig) (F : Nat) : Prop where
  mk ::
abbrev R66 (r : Bool) : (Nat → V) → Prop := RR Try.prog [.tmp 6] 0 false (Enc.enc (r : Bool))
section
variable {D : Den} {σ : Sig} {F : Nat} {r : Bool}
def i_within (F : Nat) (n_1 : Int) (low_2 : Int) (high_3 : Int) : Option Bool :=
  bif decide (n_1 ≥ low_2) then
    some (decide (n_1 ≤ high_3))
  else
    some false
theorem t66 (H : H66 D σ F) (n_1 : Int) (low_2 : Int) (high_3 : Int) (s : Nat → V) (hs : Facts [(0, (.int .i64 n_1)), (1, (.int .i64 low_2)), (2, (.int .i64 high_3))] s) (h : i_within F n_1 low_2 high_3 = some r) : Run D σ (R66 r) (.run A66 []) s := by
  unfold i_within at h
  obtain ⟨h0, h1, h2⟩ := hs
  refine .seq ?_
  refine run_reg ?_
  refine e_end ?_
  refine g_v0 (.bool false) rfl rfl ?_
  refine g_end ?_
  refine e_end ?_
  refine renew [(0, (.int .i64 n_1)), (1, (.int .i64 low_2)), (2, (.int .i64 high_3)), (6, (.bool false))] ⟨h0, h1, h2, rfl⟩ ?_
  rintro s ⟨h0, h1, h2, h6⟩
  refine .nsq ?_
  refine .seq ?_
  refine run_reg ?_
  refine e_end ?_
  refine g_v1 (t := 0) (u := (.int .i64 n_1)) (.int .i64 n_1) h0 rfl rfl ?_
  refine g_v1 (t := 1) (u := (.int .i64 low_2)) (.int .i64 low_2) h1 rfl rfl ?_
  refine g_v2 (t1 := 7) (t2 := 8) (u1 := (.int .i64 n_1)) (u2 := (.int .i64 low_2)) (.bool (decide (n_1 ≥ low_2))) rfl rfl rfl rfl ?_
  refine g_v1 (t := 9) (u := (.bool (decide (n_1 ≥ low_2)))) (.bool (decide (n_1 ≥ low_2))) rfl rfl rfl ?_
  refine split_on (c := decide (n_1 ≥ low_2)) h (fun hg4 h => ?_) (fun hg4 h => ?_)
  · refine g_yes (Eq.trans (b := .bool (decide (n_1 ≥ low_2))) rfl (congrArg V.bool hg4)) (g_v1 (t := 0) (u := (.int .i64 n_1)) (.int .i64 n_1) h0 rfl rfl ?_)
    refine g_yes (Eq.trans (b := .bool (decide (n_1 ≥ low_2))) rfl (congrArg V.bool hg4)) (g_v1 (t := 2) (u := (.int .i64 high_3)) (.int .i64 high_3) h2 rfl rfl ?_)
    refine g_yes (Eq.trans (b := .bool (decide (n_1 ≥ low_2))) rfl (congrArg V.bool hg4)) (g_v2 (t1 := 11) (t2 := 12) (u1 := (.int .i64 n_1)) (u2 := (.int .i64 high_3)) (.bool (decide (n_1 ≤ high_3))) rfl rfl rfl rfl ?_)
    refine g_v2 (t1 := 10) (t2 := 13) (u1 := (.bool true)) (u2 := (.bool (decide (n_1 ≤ high_3)))) (.bool (decide (n_1 ≤ high_3))) (Eq.trans (b := .bool (decide (n_1 ≥ low_2))) rfl (congrArg V.bool hg4)) rfl rfl rfl ?_
    refine g_v1 (t := 14) (u := (.bool (decide (n_1 ≤ high_3)))) (.bool (decide (n_1 ≤ high_3))) rfl rfl rfl ?_
    refine g_end ?_
    refine e_end ?_
    refine renew [(6, (.bool (decide (n_1 ≤ high_3))))] rfl ?_
    rintro s h6
    refine .nsq ?_
    refine .ret ?_
    have hr := Option.some.inj h
    subst hr
    exact rrA (res_tmp h6) rfl
  · refine g_no (Eq.trans (b := .bool (decide (n_1 ≥ low_2))) rfl (congrArg V.bool hg4)) ?_
    refine g_no (Eq.trans (b := .bool (decide (n_1 ≥ low_2))) rfl (congrArg V.bool hg4)) ?_
    refine g_no (Eq.trans (b := .bool (decide (n_1 ≥ low_2))) rfl (congrArg V.bool hg4)) ?_
    refine g_v2 (t1 := 10) (t2 := 13) (u1 := (.bool false)) (u2 := (.tup [])) (.bool false) (Eq.trans (b := .bool (decide (n_1 ≥ low_2))) rfl (congrArg V.bool hg4)) rfl rfl rfl ?_
    refine g_v1 (t := 14) (u := (.bool false)) (.bool false) rfl rfl rfl ?_
    refine g_end ?_
    refine e_end ?_
    refine renew [(6, (.bool false))] rfl ?_
    rintro s h6
    refine .nsq ?_
    refine .ret ?_
    have hr := Option.some.inj h
    subst hr
    exact rrA (res_tmp h6) rfl
end
def e66 (F : Nat) : Ent := ⟨66, da (fun (x : (Int × Int × Int × Unit)) => i_within F x.1 x.2.1 x.2.2.1) (fun (r : Bool) => (Enc.enc (r : Bool))), 0, false, selF []⟩
theorem p66 {F : Nat} {x0 : Int} {x1 : Int} {x2 : Int} {r : Bool} (h : i_within F x0 x1 x2 = some r) : (e66 F).den [Enc.enc x0, Enc.enc x1, Enc.enc x2] = some (Enc.enc (r : Bool)) := da_put (f := fun (x : (Int × Int × Int × Unit)) => i_within F x.1 x.2.1 x.2.2.1) (t := fun (r : Bool) => (Enc.enc (r : Bool))) (x0, x1, x2, ()) h
theorem o66 {D : Den} {σ : Sig} {F : Nat} (hF : Fits2 Try.prog D σ) (H : H66 D σ F) : (e66 F).Ok Try.prog := by
  refine ok_of (f := 66) (show unk 66 = 66 from rfl) (fun args r h => ?_) ⟨Try.f66, Try.func66, rfl, rfl⟩
  obtain ⟨⟨x0, x1, x2, _⟩, y, rfl, hy, rfl⟩ := da_open h
  exact contract_run hF (by kernel_rfl) Try.func66 rfl c66 (show 3 ≤ Try.f66.ntmps by decide) (t66 H x0 x1 x2 _ ⟨rfl, rfl, rfl⟩ hy)
/- cmp.isNaN[int] -/
def A141_1 : AC := (AC.seq (AC.reg [] [(I.mk (some 3) none false (X.v (A.mov (O.t 0)))), (I.mk (some 4) none false (X.v (A.mov (O.t 0)))), (I.mk (some 5) none false (X.v (A.bin BinOp.neq (O.t 3) (O.t 4)))), (I.mk (some 2) none false (X.v (A.mov (O.t 5))))] []) AC.ret)
def A141 : AC := (AC.seq (AC.reg [] [(I.mk (some 2) none false (X.v (A.mov (O.k (V.bool false)))))] []) A141_1)
def an141 : List An := []
theorem c141 : cC Try.prog Try.f141.ntmps an141 (Try.f141.body.getD .skip) = some A141 := by kernel_rfl
structure H141 (D : Den) (σ : Sig) (F : Nat) : Prop where
  mk ::
abbrev R141 (r : Bool) : (Nat → V) → Prop := RR Try.prog [.tmp 2] 0 false (Enc.enc (r : Bool))
section
variable {D : Den} {σ : Sig} {F : Nat} {r : Bool}
def cmp_isNaN_int (F : Nat) (x_1 : Int) : Option Bool :=
  some (x_1 != x_1)
theorem t141 (H : H141 D σ F) (x_1 : Int) (s : Nat → V) (hs : Facts [(0, (.int .i64 x_1))] s) (h : cmp_isNaN_int F x_1 = some r) : Run D σ (R141 r) (.run A141 []) s := by
  unfold cmp_isNaN_int at h
  have h0 := hs
  refine .seq ?_
  refine run_reg ?_
  refine e_end ?_
  refine g_v0 (.bool false) rfl rfl ?_
  refine g_end ?_
  refine e_end ?_
  refine renew [(0, (.int .i64 x_1)), (2, (.bool false))] ⟨h0, rfl⟩ ?_
  rintro s ⟨h0, h2⟩
  refine .nsq ?_
  refine .seq ?_
  refine run_reg ?_
  refine e_end ?_
  refine g_v1 (t := 0) (u := (.int .i64 x_1)) (.int .i64 x_1) h0 rfl rfl ?_
  refine g_v1 (t := 0) (u := (.int .i64 x_1)) (.int .i64 x_1) h0 rfl rfl ?_
  refine g_v2 (t1 := 3) (t2 := 4) (u1 := (.int .i64 x_1)) (u2 := (.int .i64 x_1)) (.bool (x_1 != x_1)) rfl rfl rfl rfl ?_
  refine g_v1 (t := 5) (u := (.bool (x_1 != x_1))) (.bool (x_1 != x_1)) rfl rfl rfl ?_
  refine g_end ?_
  refine e_end ?_
  refine renew [(2, (.bool (x_1 != x_1)))] rfl ?_
  rintro s h2
  refine .nsq ?_
  refine .ret ?_
  have hr := Option.some.inj h
  subst hr
  exact rrA (res_tmp h2) rfl
end
def e141 (F : Nat) : Ent := ⟨141, da (fun (x : (Int × Unit)) => cmp_isNaN_int F x.1) (fun (r : Bool) => (Enc.enc (r : Bool))), 0, false, selF []⟩
theorem p141 {F : Nat} {x0 : Int} {r : Bool} (h : cmp_isNaN_int F x0 = some r) : (e141 F).den [Enc.enc x0] = some (Enc.enc (r : Bool)) := da_put (f := fun (x : (Int × Unit)) => cmp_isNaN_int F x.1) (t := fun (r : Bool) => (Enc.enc (r : Bool))) (x0, ()) h
theorem o141 {D : Den} {σ : Sig} {F : Nat} (hF : Fits2 Try.prog D σ) (H : H141 D σ F) : (e141 F).Ok Try.prog := by
  refine ok_of (f := 141) (show unk 141 = 141 from rfl) (fun args r h => ?_) ⟨Try.f141, Try.func141, rfl, rfl⟩
  obtain ⟨⟨x0, _⟩, y, rfl, hy, rfl⟩ := da_open h
  exact contract_run hF (by kernel_rfl) Try.func141 rfl c141 (show 1 ≤ Try.f141.ntmps by decide) (t141 H x0 _ rfl hy)
/- cmp.Compare[int] -/
def A131_5 : AC := (AC.cond (O.t 12) (AC.seq (AC.reg [] [(I.mk (some 4) none false (X.v (A.mov (O.k (V.int IntKind.i64 (Int.ofNat 0))))))] []) AC.ret) AC.skip)
def A131_6 : AC := (AC.seq (AC.reg [] [(I.mk (some 4) none false (X.v (A.mov (O.k (V.int IntKind.i64 (Int.negSucc 0))))))] []) AC.ret)
def A131_4 : AC := (AC.cond (O.t 11) (AC.seq (AC.seq (AC.reg [] [(I.mk (some 12) none false (X.v (A.mov (O.t 6))))] []) A131_5) A131_6) AC.skip)
def A131_8 : AC := (AC.cond (O.t 13) (AC.seq (AC.reg [] [(I.mk (some 4) none false (X.v (A.mov (O.k (V.int IntKind.i64 (Int.ofNat 1))))))] []) AC.ret) AC.skip)
def A131_10 : AC := (AC.cond (O.t 16) (AC.seq (AC.reg [] [(I.mk (some 4) none false (X.v (A.mov (O.k (V.int IntKind.i64 (Int.negSucc 0))))))] []) AC.ret) AC.skip)
def A131_12 : AC := (AC.cond (O.t 19) (AC.seq (AC.reg [] [(I.mk (some 4) none false (X.v (A.mov (O.k (V.int IntKind.i64 (Int.ofNat 1))))))] []) AC.ret) AC.skip)
def A131_13 : AC := (AC.seq (AC.reg [] [(I.mk (some 4) none false (X.v (A.mov (O.k (V.int IntKind.i64 (Int.ofNat 0))))))] []) AC.ret)
def A131_11 : AC := (AC.seq (AC.seq (AC.reg [] [(I.mk (some 17) none false (X.v (A.mov (O.t 0)))), (I.mk (some 18) none false (X.v (A.mov (O.t 1)))), (I.mk (some 19) none false (X.v (A.bin BinOp.gtr (O.t 17) (O.t 18))))] []) A131_12) A131_13)
def A131_9 : AC := (AC.seq (AC.seq (AC.reg [] [(I.mk (some 14) none false (X.v (A.mov (O.t 0)))), (I.mk (some 15) none false (X.v (A.mov (O.t 1)))), (I.mk (some 16) none false (X.v (A.bin BinOp.lss (O.t 14) (O.t 15))))] []) A131_10) A131_11)
def A131_7 : AC := (AC.seq (AC.seq (AC.reg [] [(I.mk (some 13) none false (X.v (A.mov (O.t 6))))] []) A131_8) A131_9)
def A131_3 : AC := (AC.seq (AC.seq (AC.reg [] [(I.mk (some 11) none false (X.v (A.mov (O.t 5))))] []) A131_4) A131_7)
def A131_2 : AC := (AC.seq (AC.reg [] [(I.mk (some 9) none false (X.v (A.mov (O.t 1)))), (I.mk (some 10) none false (X.call (O.k (V.fn 141 [] [])) [(O.t 9)])), (I.mk (some 6) none false (X.v (A.mov (O.t 10))))] []) A131_3)
def A131_1 : AC := (AC.seq (AC.reg [] [(I.mk (some 7) none false (X.v (A.mov (O.t 0)))), (I.mk (some 8) none false (X.call (O.k (V.fn 141 [] [])) [(O.t 7)])), (I.mk (some 5) none false (X.v (A.mov (O.t 8))))] []) A131_2)
def A131 : AC := (AC.seq (AC.reg [] [(I.mk (some 4) none false (X.v (A.mov (O.k (V.int IntKind.i64 (Int.ofNat 0))))))] []) A131_1)
def an131 : List An := []
theorem c131 : cC Try.prog Try.f131.ntmps an131 (Try.f131.body.getD .skip) = some A131 := by kernel_rfl
structure H131 (D : Den) (σ : Sig) (F : Nat) : Prop where
  c141 : ∀ (x0 : Int) r, cmp_isNaN_int F x0 = some r → D 141 [Enc.enc x0] = some (Enc.enc (r : Bool))
  g141 : σ 141 = some (0, false)
abbrev R131 (r : Int) : (Nat → V) → Prop := RR Try.prog [.tmp 4] 0 false (Enc.enc (r : Int))
section
variable {D : Den} {σ : Sig} {F : Nat} {r : Int}
def cmp_Compare_int (F : Nat) (x_1 : Int) (y_2 : Int) : Option Int :=
  (cmp_isNaN_int F x_1).bind fun r_3 =>
  (cmp_isNaN_int F y_2).bind fun r_4 =>
  bif r_3 then
    bif r_4 then
      some 0
    else
      some (-1)
  else
    bif r_4 then
      some 1
    else
      bif decide (x_1 < y_2) then
        some (-1)
      else
        bif decide (x_1 > y_2) then
          some 1
        else
          some 0
theorem t131 (H : H131 D σ F) (x_1 : Int) (y_2 : Int) (s : Nat → V) (hs : Facts [(0, (.int .i64 x_1)), (1, (.int .i64 y_2))] s) (h : cmp_Compare_int F x_1 y_2 = some r) : Run D σ (R131 r) (.run A131 []) s := by
  unfold cmp_Compare_int at h
  obtain ⟨h0, h1⟩ := hs
  refine .seq ?_
  refine run_reg ?_
  refine e_end ?_
  refine g_v0 (.int .i64 0) rfl rfl ?_
  refine g_end ?_
  refine e_end ?_
  refine renew [(0, (.int .i64 x_1)), (1, (.int .i64 y_2)), (4, (.int .i64 0))] ⟨h0, h1, rfl⟩ ?_
  rintro s ⟨h0, h1, h4⟩
  refine .nsq ?_
  refine .seq ?_
  refine run_reg ?_
  refine e_end ?_
  refine g_v1 (t := 0) (u := (.int .i64 x_1)) (.int .i64 x_1) h0 rfl rfl ?_
  obtain ⟨r_3, E_r_3, h⟩ := bind_some h
  refine g_call (m := 0) (al := false) (r := (Enc.enc (r_3 : Bool))) [Enc.enc (x_1 : Int)] (ta_cons (v := (.int .i64 x_1)) rfl rfl rfl ta_nil) (H.c141 _ _ E_r_3) H.g141 rfl rfl rfl rfl ?_
  refine g_v1 (t := 8) (u := (.bool r_3)) (.bool r_3) rfl rfl rfl ?_
  refine g_end ?_
  refine e_end ?_
  refine renew [(0, (.int .i64 x_1)), (1, (.int .i64 y_2)), (4, (.int .i64 0)), (5, (.bool r_3))] ⟨h0, h1, h4, rfl⟩ ?_
  rintro s ⟨h0, h1, h4, h5⟩
  refine .nsq ?_
  refine .seq ?_
  refine run_reg ?_
  refine e_end ?_
  refine g_v1 (t := 1) (u := (.int .i64 y_2)) (.int .i64 y_2) h1 rfl rfl ?_
  obtain ⟨r_4, E_r_4, h⟩ := bind_some h
  refine g_call (m := 0) (al := false) (r := (Enc.enc (r_4 : Bool))) [Enc.enc (y_2 : Int)] (ta_cons (v := (.int .i64 y_2)) rfl rfl rfl ta_nil) (H.c141 _ _ E_r_4) H.g141 rfl rfl rfl rfl ?_
  refine g_v1 (t := 10) (u := (.bool r_4)) (.bool r_4) rfl rfl rfl ?_
  refine g_end ?_
  refine e_end ?_
  refine renew [(0, (.int .i64 x_1)), (1, (.int .i64 y_2)), (4, (.int .i64 0)), (5, (.bool r_3)), (6, (.bool r_4))] ⟨h0, h1, h4, h5, rfl⟩ ?_
  rintro s ⟨h0, h1, h4, h5, h6⟩
  refine .nsq ?_
  refine .seq ?_
  refine .seq ?_
  refine run_reg ?_
  refine e_end ?_
  refine g_v1 (t := 5) (u := (.bool r_3)) (.bool r_3) h5 rfl rfl ?_
  refine g_end ?_
  refine e_end ?_
  refine renew [(0, (.int .i64 x_1)), (1, (.int .i64 y_2)), (4, (.int .i64 0)), (6, (.bool r_4)), (11, (.bool r_3))] ⟨h0, h1, h4, h6, rfl⟩ ?_
  rintro s ⟨h0, h1, h4, h6, h11⟩
  refine .nsq ?_
  refine run_cond (t := r_3) h11 h (fun h => ?_) (fun h => ?_)
  · refine .seq ?_
    refine .seq ?_
    refine run_reg ?_
    refine e_end ?_
    refine g_v1 (t := 6) (u := (.bool r_4)) (.bool r_4) h6 rfl rfl ?_
    refine g_end ?_
    refine e_end ?_
    refine renew [(0, (.int .i64 x_1)), (1, (.int .i64 y_2)), (4, (.int .i64 0)), (6, (.bool r_4)), (12, (.bool r_4))] ⟨h0, h1, h4, h6, rfl⟩ ?_
    rintro s ⟨h0, h1, h4, h6, h12⟩
    refine .nsq ?_
    refine run_cond (t := r_4) h12 h (fun h => ?_) (fun h => ?_)
    · refine .seq ?_
      refine run_reg ?_
      refine e_end ?_
      refine g_v0 (.int .i64 0) rfl rfl ?_
      refine g_end ?_
      refine e_end ?_
      refine renew [(0, (.int .i64 x_1)), (1, (.int .i64 y_2)), (4, (.int .i64 0)), (6, (.bool r_4))] ⟨h0, h1, rfl, h6⟩ ?_
      rintro s ⟨h0, h1, h4, h6⟩
      refine .nsq ?_
      refine .ret ?_
      have hr := Option.some.inj h
      subst hr
      exact rrA (res_tmp h4) rfl
    · refine .skip ?_
      refine .nsq ?_
      refine .seq ?_
      refine run_reg ?_
      refine e_end ?_
      refine g_v0 (.int .i64 (-1)) rfl rfl ?_
      refine g_end ?_
      refine e_end ?_
      refine renew [(0, (.int .i64 x_1)), (1, (.int .i64 y_2)), (4, (.int .i64 (-1))), (6, (.bool r_4))] ⟨h0, h1, rfl, h6⟩ ?_
      rintro s ⟨h0, h1, h4, h6⟩
      refine .nsq ?_
      refine .ret ?_
      have hr := Option.some.inj h
      subst hr
      exact rrA (res_tmp h4) rfl
  · refine .skip ?_
    refine .nsq ?_
    refine .seq ?_
    refine .seq ?_
    refine run_reg ?_
    refine e_end ?_
    refine g_v1 (t := 6) (u := (.bool r_4)) (.bool r_4) h6 rfl rfl ?_
    refine g_end ?_
    refine e_end ?_
    refine renew [(0, (.int .i64 x_1)), (1, (.int .i64 y_2)), (4, (.int .i64 0)), (13, (.bool r_4))] ⟨h0, h1, h4, rfl⟩ ?_
    rintro s ⟨h0, h1, h4, h13⟩
    refine .nsq ?_
    refine run_cond (t := r_4) h13 h (fun h => ?_) (fun h => ?_)
    · refine .seq ?_
      refine run_reg ?_
      refine e_end ?_
      refine g_v0 (.int .i64 1) rfl rfl ?_
      refine g_end ?_
      refine e_end ?_
      refine renew [(0, (.int .i64 x_1)), (1, (.int .i64 y_2)), (4, (.int .i64 1))] ⟨h0, h1, rfl⟩ ?_
      rintro s ⟨h0, h1, h4⟩
      refine .nsq ?_
      refine .ret ?_
      have hr := Option.some.inj h
      subst hr
      exact rrA (res_tmp h4) rfl
    · refine .skip ?_
      refine .nsq ?_
      refine .seq ?_
      refine .seq ?_
      refine run_reg ?_
      refine e_end ?_
      refine g_v1 (t := 0) (u := (.int .i64 x_1)) (.int .i64 x_1) h0 rfl rfl ?_
      refine g_v1 (t := 1) (u := (.int .i64 y_2)) (.int .i64 y_2) h1 rfl rfl ?_
      refine g_v2 (t1 := 14) (t2 := 15) (u1 := (.int .i64 x_1)) (u2 := (.int .i64 y_2)) (.bool (decide (x_1 < y_2))) rfl rfl rfl rfl ?_
      refine g_end ?_
      refine e_end ?_
      refine renew [(0, (.int .i64 x_1)), (1, (.int .i64 y_2)), (4, (.int .i64 0)), (16, (.bool (decide (x_1 < y_2))))] ⟨h0, h1, h4, rfl⟩ ?_
      rintro s ⟨h0, h1, h4, h16⟩
      refine .nsq ?_
      refine run_cond (t := decide (x_1 < y_2)) h16 h (fun h => ?_) (fun h => ?_)
      · refine .seq ?_
        refine run_reg ?_
        refine e_end ?_
        refine g_v0 (.int .i64 (-1)) rfl rfl ?_
        refine g_end ?_
        refine e_end ?_
        refine renew [(0, (.int .i64 x_1)), (1, (.int .i64 y_2)), (4, (.int .i64 (-1)))] ⟨h0, h1, rfl⟩ ?_
        rintro s ⟨h0, h1, h4⟩
        refine .nsq ?_
        refine .ret ?_
        have hr := Option.some.inj h
        subst hr
        exact rrA (res_tmp h4) rfl
      · refine .skip ?_
        refine .nsq ?_
        refine .seq ?_
        refine .seq ?_
        refine run_reg ?_
        refine e_end ?_
        refine g_v1 (t := 0) (u := (.int .i64 x_1)) (.int .i64 x_1) h0 rfl rfl ?_
        refine g_v1 (t := 1) (u := (.int .i64 y_2)) (.int .i64 y_2) h1 rfl rfl ?_
        refine g_v2 (t1 := 17) (t2 := 18) (u1 := (.int .i64 x_1)) (u2 := (.int .i64 y_2)) (.bool (decide (x_1 > y_2))) rfl rfl rfl rfl ?_
        refine g_end ?_
        refine e_end ?_
        refine renew [(4, (.int .i64 0)), (19, (.bool (decide (x_1 > y_2))))] ⟨h4, rfl⟩ ?_
        rintro s ⟨h4, h19⟩
        refine .nsq ?_
        refine run_cond (t := decide (x_1 > y_2)) h19 h (fun h => ?_) (fun h => ?_)
        · refine .seq ?_
          refine run_reg ?_
          refine e_end ?_
          refine g_v0 (.int .i64 1) rfl rfl ?_
          refine g_end ?_
          refine e_end ?_
          refine renew [(4, (.int .i64 1))] rfl ?_
          rintro s h4
          refine .nsq ?_
          refine .ret ?_
          have hr := Option.some.inj h
          subst hr
          exact rrA (res_tmp h4) rfl
        · refine .skip ?_
          refine .nsq ?_
          refine .seq ?_
          refine run_reg ?_
          refine e_end ?_
          refine g_v0 (.int .i64 0) rfl rfl ?_
          refine g_end ?_
          refine e_end ?_
          refine renew [(4, (.int .i64 0))] rfl ?_
          rintro s h4
          refine .nsq ?_
          refine .ret ?_
          have hr := Option.some.inj h
          subst hr
          exact rrA (res_tmp h4) rfl
end
def e131 (F : Nat) : Ent := ⟨131, da (fun (x : (Int × Int × Unit)) => cmp_Compare_int F x.1 x.2.1) (fun (r : Int) => (Enc.enc (r : Int))), 0, false, selF []⟩
theorem p131 {F : Nat} {x0 : Int} {x1 : Int} {r : Int} (h : cmp_Compare_int F x0 x1 = some r) : (e131 F).den [Enc.enc x0, Enc.enc x1] = some (Enc.enc (r : Int)) := da_put (f := fun (x : (Int × Int × Unit)) => cmp_Compare_int F x.1 x.2.1) (t := fun (r : Int) => (Enc.enc (r : Int))) (x0, x1, ()) h
theorem o131 {D : Den} {σ : Sig} {F : Nat} (hF : Fits2 Try.prog D σ) (H : H131 D σ F) : (e131 F).Ok Try.prog := by
  refine ok_of (f := 131) (show unk 131 = 131 from rfl) (fun args r h => ?_) ⟨Try.f131, Try.func131, rfl, rfl⟩
  obtain ⟨⟨x0, x1, _⟩, y, rfl, hy, rfl⟩ := da_open h
  exact contract_run hF (by kernel_rfl) Try.func131 rfl c131 (show 2 ≤ Try.f131.ntmps by decide) (t131 H x0 x1 _ ⟨rfl, rfl⟩ hy)
/- slices.Compare[[]int,int] -/
def A100_5 : AC := (AC.cond (O.t 19) (AC.seq (AC.reg [] [(I.mk (some 4) none false (X.v (A.mov (O.k (V.int IntKind.i64 (Int.ofNat 1))))))] []) AC.ret) AC.skip)
def A100_9 : AC := (AC.cond (O.t 28) (AC.seq (AC.reg [] [(I.mk (some 29) none false (X.v (A.mov (O.t 8)))), (I.mk (some 4) none false (X.v (A.mov (O.t 29))))] []) AC.ret) AC.skip)
def A100_8 : AC := (AC.seq (AC.reg [] [(I.mk (some 27) none false (X.v (A.mov (O.t 8)))), (I.mk (some 28) none false (X.v (A.bin BinOp.neq (O.t 27) (O.k (V.int IntKind.i64 (Int.ofNat 0))))))] []) A100_9)
def A100_7 : AC := (AC.seq (AC.reg [] [(I.mk (some 24) none false (X.v (A.mov (O.t 6)))), (I.mk (some 25) none false (X.v (A.mov (O.t 7)))), (I.mk (some 26) none false (X.call (O.k (V.fn 131 [] [])) [(O.t 24), (O.t 25)])), (I.mk (some 8) none false (X.v (A.mov (O.t 26))))] []) A100_8)
def A100_6 : AC := (AC.seq (AC.reg [] [(I.mk (some 20) none false (X.v (A.mov (O.t 1)))), (I.mk (some 21) none false (X.v (A.mov (O.t 5)))), (I.mk (some 22) none false (X.v (A.idx (O.t 20) (O.t 21) 1))), (I.mk (some 23) none false (X.v (A.load Sh.s (O.t 22)))), (I.mk (some 7) none false (X.v (A.mov (O.t 23))))] []) A100_7)
def A100_4 : AC := (AC.seq (AC.seq (AC.reg [] [(I.mk (some 16) none false (X.v (A.mov (O.t 5)))), (I.mk (some 17) none false (X.v (A.mov (O.t 1)))), (I.mk (some 18) none false (X.v (A.len (O.t 17)))), (I.mk (some 19) none false (X.v (A.bin BinOp.geq (O.t 16) (O.t 18))))] []) A100_5) A100_6)
def A100_10 : AC := (AC.reg [] [(I.mk (some 30) none false (X.v (A.bin BinOp.add (O.t 11) (O.k (V.int IntKind.i64 (Int.ofNat 1)))))), (I.mk (some 11) none false (X.v (A.mov (O.t 30))))] [])
def A100_3 : AC := (AC.seq (AC.block 1 (AC.seq (AC.reg [] [(I.mk (some 13) none false (X.v (A.mov (O.t 11)))), (I.mk (some 14) none false (X.v (A.idx (O.t 9) (O.t 11) 1))), (I.mk (some 15) none false (X.v (A.load Sh.s (O.t 14)))), (I.mk (some 5) none false (X.v (A.mov (O.t 13)))), (I.mk (some 6) none false (X.v (A.mov (O.t 15))))] []) A100_4)) A100_10)
def A100_2 : AC := (AC.seq (AC.cond (O.t 12) AC.skip (AC.exit 0)) A100_3)
def A100_1 : AC := (AC.seq (AC.reg [] [(I.mk (some 12) none false (X.v (A.bin BinOp.lss (O.t 11) (O.t 10))))] []) A100_2)
def A100_12 : AC := (AC.cond (O.t 35) (AC.seq (AC.reg [] [(I.mk (some 4) none false (X.v (A.mov (O.k (V.int IntKind.i64 (Int.negSucc 0))))))] []) AC.ret) AC.skip)
def A100_13 : AC := (AC.seq (AC.reg [] [(I.mk (some 4) none false (X.v (A.mov (O.k (V.int IntKind.i64 (Int.ofNat 0))))))] []) AC.ret)
def A100_11 : AC := (AC.seq (AC.seq (AC.reg [] [(I.mk (some 31) none false (X.v (A.mov (O.t 0)))), (I.mk (some 32) none false (X.v (A.len (O.t 31)))), (I.mk (some 33) none false (X.v (A.mov (O.t 1)))), (I.mk (some 34) none false (X.v (A.len (O.t 33)))), (I.mk (some 35) none false (X.v (A.bin BinOp.lss (O.t 32) (O.t 34))))] []) A100_12) A100_13)
def A100_15 : AC := (AC.block 0 (AC.loop A100_1))
def A100_14 : AC := (AC.seq (AC.seq (AC.reg [] [(I.mk (some 9) none false (X.v (A.mov (O.t 0)))), (I.mk (some 10) none false (X.v (A.len (O.t 9)))), (I.mk (some 11) none false (X.v (A.mov (O.k (V.int IntKind.i64 (Int.ofNat 0))))))] []) A100_15) A100_11)
def A100 : AC := (AC.seq (AC.reg [] [(I.mk (some 4) none false (X.v (A.mov (O.k (V.int IntKind.i64 (Int.ofNat 0))))))] []) A100_14)
def an100 : List An := []
theorem c100 : cC Try.prog Try.f100.ntmps an100 (Try.f100.body.getD .skip) = some A100 := by kernel_rfl
structure H100 (D : Den) (σ : Sig) (F : Nat) : Prop where
  c131 : ∀ (x0 : Int) (x1 : Int) r, cmp_Compare_int F x0 x1 = some r → D 131 [Enc.enc x0, Enc.enc x1] = some (Enc.enc (r : Int))
  g131 : σ 131 = some (0, false)
abbrev R100 (r : Int) : (Nat → V) → Prop := RR Try.prog [.tmp 4] 0 false (Enc.enc (r : Int))
section
variable {D : Den} {σ : Sig} {F : Nat} {r : Int}
def slices_Compare_l1 (F : Nat) (s1_1 : (List Int)) (s2_2 : (List Int))  : Nat → Int → Option Int
  | 0, _ => none
  | k + 1, t11_6 =>
    bif decide (t11_6 < (s1_1.length : Int)) then
      (idx s1_1 t11_6).bind fun e_10 =>
      bif decide (t11_6 ≥ (s2_2.length : Int)) then
        some 1
      else
        (idx s2_2 t11_6).bind fun e_11 =>
        (cmp_Compare_int F e_10 e_11).bind fun r_12 =>
        bif (r_12 != 0) then
          some r_12
        else
          (slices_Compare_l1 F s1_1 s2_2 k) (w64 (t11_6 + 1))
    else
      bif decide ((s1_1.length : Int) < (s2_2.length : Int)) then
        some (-1)
      else
        some 0
theorem t_f100_l1 (H : H100 D σ F) (s1_1 : (List Int)) (s2_2 : (List Int))  : ∀ (k : Nat) (t11_6 : Int) (s : Nat → V), Facts [(0, (Enc.enc (s1_1 : List Int))), (1, (Enc.enc (s2_2 : List Int))), (4, (.int .i64 0)), (9, (Enc.enc (s1_1 : List Int))), (10, (.int .i64 (s1_1.length : Int))), (11, (.int .i64 t11_6))] s → slices_Compare_l1 F s1_1 s2_2 k t11_6 = some r → Run D σ (R100 r) (.run A100_1 [.lp A100_1, .bk 0, .sq A100_11]) s := by
  intro k
  induction k with
  | zero => intro t11_6 s _ h; exact nomatch (h : (none : Option _) = some r)
  | succ k ih =>
    intro t11_6 s hs h
    rw [slices_Compare_l1] at h
    obtain ⟨h0, h1, h4, h9, h10, h11⟩ := hs
    refine .seq ?_
    refine run_reg ?_
    refine e_end ?_
    refine g_v2 (t1 := 11) (t2 := 10) (u1 := (.int .i64 t11_6)) (u2 := (.int .i64 (s1_1.length : Int))) (.bool (decide (t11_6 < (s1_1.length : Int)))) h11 h10 rfl rfl ?_
    refine g_end ?_
    refine e_end ?_
    refine renew [(0, (Enc.enc (s1_1 : List Int))), (1, (Enc.enc (s2_2 : List Int))), (4, (.int .i64 0)), (9, (Enc.enc (s1_1 : List Int))), (10, (.int .i64 (s1_1.length : Int))), (11, (.int .i64 t11_6)), (12, (.bool (decide (t11_6 < (s1_1.length : Int)))))] ⟨h0, h1, h4, h9, h10, h11, rfl⟩ ?_
    rintro s ⟨h0, h1, h4, h9, h10, h11, h12⟩
    refine .nsq ?_
    refine .seq ?_
    refine run_cond (t := decide (t11_6 < (s1_1.length : Int))) h12 h (fun h => ?_) (fun h => ?_)
    · refine .skip ?_
      refine .nsq ?_
      refine .seq ?_
      refine .block ?_
      refine .seq ?_
      refine run_reg ?_
      refine e_end ?_
      refine g_v1 (t := 11) (u := (.int .i64 t11_6)) (.int .i64 t11_6) h11 rfl rfl ?_
      obtain ⟨e_10, E_e_10, h⟩ := bind_some h
      refine g_v (.ref .sh 0 [] (.int .i64 e_10)) (ev_idx (t := .sh) (lo := 0) (xs := s1_1) h9 h11 E_e_10 rfl rfl) ?_
      refine g_v1 (t := 14) (u := (.ref .sh 0 [] (.int .i64 e_10))) (.int .i64 e_10) rfl rfl rfl ?_
      refine g_v1 (t := 13) (u := (.int .i64 t11_6)) (.int .i64 t11_6) rfl rfl rfl ?_
      refine g_v1 (t := 15) (u := (.int .i64 e_10)) (.int .i64 e_10) rfl rfl rfl ?_
      refine g_end ?_
      refine e_end ?_
      refine renew [(0, (Enc.enc (s1_1 : List Int))), (1, (Enc.enc (s2_2 : List Int))), (4, (.int .i64 0)), (5, (.int .i64 t11_6)), (6, (.int .i64 e_10)), (9, (Enc.enc (s1_1 : List Int))), (10, (.int .i64 (s1_1.length : Int))), (11, (.int .i64 t11_6))] ⟨h0, h1, h4, rfl, rfl, h9, h10, h11⟩ ?_
      rintro s ⟨h0, h1, h4, h5, h6, h9, h10, h11⟩
      refine .nsq ?_
      refine .seq ?_
      refine .seq ?_
      refine run_reg ?_
      refine e_end ?_
      refine g_v1 (t := 5) (u := (.int .i64 t11_6)) (.int .i64 t11_6) h5 rfl rfl ?_
      refine g_v1 (t := 1) (u := (Enc.enc (s2_2 : List Int))) (Enc.enc (s2_2 : List Int)) h1 rfl rfl ?_
      refine g_v (.int .i64 (s2_2.length : Int)) (ev_len (xs := s2_2) rfl) ?_
      refine g_v2 (t1 := 16) (t2 := 18) (u1 := (.int .i64 t11_6)) (u2 := (.int .i64 (s2_2.length : Int))) (.bool (decide (t11_6 ≥ (s2_2.length : Int)))) rfl rfl rfl rfl ?_
      refine g_end ?_
      refine e_end ?_
      refine renew [(0, (Enc.enc (s1_1 : List Int))), (1, (Enc.enc (s2_2 : List Int))), (4, (.int .i64 0)), (5, (.int .i64 t11_6)), (6, (.int .i64 e_10)), (9, (Enc.enc (s1_1 : List Int))), (10, (.int .i64 (s1_1.length : Int))), (11, (.int .i64 t11_6)), (19, (.bool (decide (t11_6 ≥ (s2_2.length : Int)))))] ⟨h0, h1, h4, h5, h6, h9, h10, h11, rfl⟩ ?_
      rintro s ⟨h0, h1, h4, h5, h6, h9, h10, h11, h19⟩
      refine .nsq ?_
      refine run_cond (t := decide (t11_6 ≥ (s2_2.length : Int))) h19 h (fun h => ?_) (fun h => ?_)
      · refine .seq ?_
        refine run_reg ?_
        refine e_end ?_
        refine g_v0 (.int .i64 1) rfl rfl ?_
        refine g_end ?_
        refine e_end ?_
        refine renew [(0, (Enc.enc (s1_1 : List Int))), (1, (Enc.enc (s2_2 : List Int))), (4, (.int .i64 1)), (5, (.int .i64 t11_6)), (6, (.int .i64 e_10)), (9, (Enc.enc (s1_1 : List Int))), (10, (.int .i64 (s1_1.length : Int))), (11, (.int .i64 t11_6))] ⟨h0, h1, rfl, h5, h6, h9, h10, h11⟩ ?_
        rintro s ⟨h0, h1, h4, h5, h6, h9, h10, h11⟩
        refine .nsq ?_
        refine .ret ?_
        have hr := Option.some.inj h
        subst hr
        exact rrA (res_tmp h4) rfl
      · refine .skip ?_
        refine .nsq ?_
        refine .seq ?_
        refine run_reg ?_
        refine e_end ?_
        refine g_v1 (t := 1) (u := (Enc.enc (s2_2 : List Int))) (Enc.enc (s2_2 : List Int)) h1 rfl rfl ?_
        refine g_v1 (t := 5) (u := (.int .i64 t11_6)) (.int .i64 t11_6) h5 rfl rfl ?_
        obtain ⟨e_11, E_e_11, h⟩ := bind_some h
        refine g_v (.ref .sh 0 [] (.int .i64 e_11)) (ev_idx (t := .sh) (lo := 0) (xs := s2_2) rfl rfl E_e_11 rfl rfl) ?_
        refine g_v1 (t := 22) (u := (.ref .sh 0 [] (.int .i64 e_11))) (.int .i64 e_11) rfl rfl rfl ?_
        refine g_v1 (t := 23) (u := (.int .i64 e_11)) (.int .i64 e_11) rfl rfl rfl ?_
        refine g_end ?_
        refine e_end ?_
        refine renew [(0, (Enc.enc (s1_1 : List Int))), (1, (Enc.enc (s2_2 : List Int))), (4, (.int .i64 0)), (6, (.int .i64 e_10)), (7, (.int .i64 e_11)), (9, (Enc.enc (s1_1 : List Int))), (10, (.int .i64 (s1_1.length : Int))), (11, (.int .i64 t11_6))] ⟨h0, h1, h4, h6, rfl, h9, h10, h11⟩ ?_
        rintro s ⟨h0, h1, h4, h6, h7, h9, h10, h11⟩
        refine .nsq ?_
        refine .seq ?_
        refine run_reg ?_
        refine e_end ?_
        refine g_v1 (t := 6) (u := (.int .i64 e_10)) (.int .i64 e_10) h6 rfl rfl ?_
        refine g_v1 (t := 7) (u := (.int .i64 e_11)) (.int .i64 e_11) h7 rfl rfl ?_
        obtain ⟨r_12, E_r_12, h⟩ := bind_some h
        refine g_call (m := 0) (al := false) (r := (Enc.enc (r_12 : Int))) [Enc.enc (e_10 : Int), Enc.enc (e_11 : Int)] (ta_cons (v := (.int .i64 e_10)) rfl rfl rfl (ta_cons (v := (.int .i64 e_11)) rfl rfl rfl ta_nil)) (H.c131 _ _ _ E_r_12) H.g131 rfl rfl rfl rfl ?_
        refine g_v1 (t := 26) (u := (.int .i64 r_12)) (.int .i64 r_12) rfl rfl rfl ?_
        refine g_end ?_
        refine e_end ?_
        refine renew [(0, (Enc.enc (s1_1 : List Int))), (1, (Enc.enc (s2_2 : List Int))), (4, (.int .i64 0)), (8, (.int .i64 r_12)), (9, (Enc.enc (s1_1 : List Int))), (10, (.int .i64 (s1_1.length : Int))), (11, (.int .i64 t11_6))] ⟨h0, h1, h4, rfl, h9, h10, h11⟩ ?_
        rintro s ⟨h0, h1, h4, h8, h9, h10, h11⟩
        refine .nsq ?_
        refine .seq ?_
        refine run_reg ?_
        refine e_end ?_
        refine g_v1 (t := 8) (u := (.int .i64 r_12)) (.int .i64 r_12) h8 rfl rfl ?_
        refine g_v1 (t := 27) (u := (.int .i64 r_12)) (.bool (r_12 != 0)) rfl rfl rfl ?_
        refine g_end ?_
        refine e_end ?_
        refine renew [(0, (Enc.enc (s1_1 : List Int))), (1, (Enc.enc (s2_2 : List Int))), (4, (.int .i64 0)), (8, (.int .i64 r_12)), (9, (Enc.enc (s1_1 : List Int))), (10, (.int .i64 (s1_1.length : Int))), (11, (.int .i64 t11_6)), (28, (.bool (r_12 != 0)))] ⟨h0, h1, h4, h8, h9, h10, h11, rfl⟩ ?_
        rintro s ⟨h0, h1, h4, h8, h9, h10, h11, h28⟩
        refine .nsq ?_
        refine run_cond (t := (r_12 != 0)) h28 h (fun h => ?_) (fun h => ?_)
        · refine .seq ?_
          refine run_reg ?_
          refine e_end ?_
          refine g_v1 (t := 8) (u := (.int .i64 r_12)) (.int .i64 r_12) h8 rfl rfl ?_
          refine g_v1 (t := 29) (u := (.int .i64 r_12)) (.int .i64 r_12) rfl rfl rfl ?_
          refine g_end ?_
          refine e_end ?_
          refine renew [(0, (Enc.enc (s1_1 : List Int))), (1, (Enc.enc (s2_2 : List Int))), (4, (.int .i64 r_12)), (9, (Enc.enc (s1_1 : List Int))), (10, (.int .i64 (s1_1.length : Int))), (11, (.int .i64 t11_6))] ⟨h0, h1, rfl, h9, h10, h11⟩ ?_
          rintro s ⟨h0, h1, h4, h9, h10, h11⟩
          refine .nsq ?_
          refine .ret ?_
          have hr := Option.some.inj h
          subst hr
          exact rrA (res_tmp h4) rfl
        · refine .skip ?_
          refine .nbk ?_
          refine .nsq ?_
          refine run_reg ?_
          refine e_end ?_
          refine g_v1 (t := 11) (u := (.int .i64 t11_6)) (.int .i64 (w64 (t11_6 + 1))) h11 rfl rfl ?_
          refine g_v1 (t := 30) (u := (.int .i64 (w64 (t11_6 + 1)))) (.int .i64 (w64 (t11_6 + 1))) rfl rfl rfl ?_
          refine g_end ?_
          refine e_end ?_
          refine renew [(0, (Enc.enc (s1_1 : List Int))), (1, (Enc.enc (s2_2 : List Int))), (4, (.int .i64 0)), (9, (Enc.enc (s1_1 : List Int))), (10, (.int .i64 (s1_1.length : Int))), (11, (.int .i64 (w64 (t11_6 + 1))))] ⟨h0, h1, h4, h9, h10, rfl⟩ ?_
          rintro s ⟨h0, h1, h4, h9, h10, h11⟩
          refine .nlp ?_
          exact ih (w64 (t11_6 + 1)) _ ⟨h0, h1, h4, h9, h10, h11⟩ h
    · refine .exit ?_
      refine .esq ?_
      refine .elp ?_
      refine .ebk ?_
      refine .nsq ?_
      refine .seq ?_
      refine .seq ?_
      refine run_reg ?_
      refine e_end ?_
      refine g_v1 (t := 0) (u := (Enc.enc (s1_1 : List Int))) (Enc.enc (s1_1 : List Int)) h0 rfl rfl ?_
      refine g_v (.int .i64 (s1_1.length : Int)) (ev_len (xs := s1_1) rfl) ?_
      refine g_v1 (t := 1) (u := (Enc.enc (s2_2 : List Int))) (Enc.enc (s2_2 : List Int)) h1 rfl rfl ?_
      refine g_v (.int .i64 (s2_2.length : Int)) (ev_len (xs := s2_2) rfl) ?_
      refine g_v2 (t1 := 32) (t2 := 34) (u1 := (.int .i64 (s1_1.length : Int))) (u2 := (.int .i64 (s2_2.length : Int))) (.bool (decide ((s1_1.length : Int) < (s2_2.length : Int)))) rfl rfl rfl rfl ?_
      refine g_end ?_
      refine e_end ?_
      refine renew [(4, (.int .i64 0)), (35, (.bool (decide ((s1_1.length : Int) < (s2_2.length : Int)))))] ⟨h4, rfl⟩ ?_
      rintro s ⟨h4, h35⟩
      refine .nsq ?_
      refine run_cond (t := decide ((s1_1.length : Int) < (s2_2.length : Int))) h35 h (fun h => ?_) (fun h => ?_)
      · refine .seq ?_
        refine run_reg ?_
        refine e_end ?_
        refine g_v0 (.int .i64 (-1)) rfl rfl ?_
        refine g_end ?_
        refine e_end ?_
        refine renew [(4, (.int .i64 (-1)))] rfl ?_
        rintro s h4
        refine .nsq ?_
        refine .ret ?_
        have hr := Option.some.inj h
        subst hr
        exact rrA (res_tmp h4) rfl
      · refine .skip ?_
        refine .nsq ?_
        refine .seq ?_
        refine run_reg ?_
        refine e_end ?_
        refine g_v0 (.int .i64 0) rfl rfl ?_
        refine g_end ?_
        refine e_end ?_
        refine renew [(4, (.int .i64 0))] rfl ?_
        rintro s h4
        refine .nsq ?_
        refine .ret ?_
        have hr := Option.some.inj h
        subst hr
        exact rrA (res_tmp h4) rfl
def slices_Compare (F : Nat) (s1_1 : (List Int)) (s2_2 : (List Int)) : Option Int :=
  slices_Compare_l1 F s1_1 s2_2 F 0
theorem t100 (H : H100 D σ F) (s1_1 : (List Int)) (s2_2 : (List Int)) (s : Nat → V) (hs : Facts [(0, (Enc.enc (s1_1 : List Int))), (1, (Enc.enc (s2_2 : List Int)))] s) (h : slices_Compare F s1_1 s2_2 = some r) : Run D σ (R100 r) (.run A100 []) s := by
  unfold slices_Compare at h
  obtain ⟨h0, h1⟩ := hs
  refine .seq ?_
  refine run_reg ?_
  refine e_end ?_
  refine g_v0 (.int .i64 0) rfl rfl ?_
  refine g_end ?_
  refine e_end ?_
  refine renew [(0, (Enc.enc (s1_1 : List Int))), (1, (Enc.enc (s2_2 : List Int))), (4, (.int .i64 0))] ⟨h0, h1, rfl⟩ ?_
  rintro s ⟨h0, h1, h4⟩
  refine .nsq ?_
  refine .seq ?_
  refine .seq ?_
  refine run_reg ?_
  refine e_end ?_
  refine g_v1 (t := 0) (u := (Enc.enc (s1_1 : List Int))) (Enc.enc (s1_1 : List Int)) h0 rfl rfl ?_
  refine g_v (.int .i64 (s1_1.length : Int)) (ev_len (xs := s1_1) rfl) ?_
  refine g_v0 (.int .i64 0) rfl rfl ?_
  refine g_end ?_
  refine e_end ?_
  refine renew [(0, (Enc.enc (s1_1 : List Int))), (1, (Enc.enc (s2_2 : List Int))), (4, (.int .i64 0)), (9, (Enc.enc (s1_1 : List Int))), (10, (.int .i64 (s1_1.length : Int))), (11, (.int .i64 0))] ⟨h0, h1, h4, rfl, rfl, rfl⟩ ?_
  rintro s ⟨h0, h1, h4, h9, h10, h11⟩
  refine .nsq ?_
  refine .block ?_
  refine .loop ?_
  exact t_f100_l1 H s1_1 s2_2 F 0 _ ⟨h0, h1, h4, h9, h10, h11⟩ h
end
def e100 (F : Nat) : Ent := ⟨100, da (fun (x : ((List Int) × (List Int) × Unit)) => slices_Compare F x.1 x.2.1) (fun (r : Int) => (Enc.enc (r : Int))), 0, false, selF []⟩
theorem p100 {F : Nat} {x0 : (List Int)} {x1 : (List Int)} {r : Int} (h : slices_Compare F x0 x1 = some r) : (e100 F).den [Enc.enc x0, Enc.enc x1] = some (Enc.enc (r : Int)) := da_put (f := fun (x : ((List Int) × (List Int) × Unit)) => slices_Compare F x.1 x.2.1) (t := fun (r : Int) => (Enc.enc (r : Int))) (x0, x1, ()) h
theorem o100 {D : Den} {σ : Sig} {F : Nat} (hF : Fits2 Try.prog D σ) (H : H100 D σ F) : (e100 F).Ok Try.prog := by
  refine ok_of (f := 100) (show unk 100 = 100 from rfl) (fun args r h => ?_) ⟨Try.f100, Try.func100, rfl, rfl⟩
  obtain ⟨⟨x0, x1, _⟩, y, rfl, hy, rfl⟩ := da_open h
  exact contract_run hF (by kernel_rfl) Try.func100 rfl c100 (show 2 ≤ Try.f100.ntmps by decide) (t100 H x0 x1 _ ⟨rfl, rfl⟩ hy)
/- loop.example/g01109/impl.IsGraph -/
def A50_5 : AC := (AC.cond (O.t 48) (AC.seq (AC.reg [] [(I.mk (some 2) none false (X.v (A.mov (O.k (V.bool false)))))] []) AC.ret) AC.skip)
def A50_4 : AC := (AC.seq (AC.reg [] [(I.mk (some 17) none false (X.v (A.idxA (O.t 4) (O.k (V.int IntKind.i64 (Int.ofNat 0))) 2 1))), (I.mk (some 18) none false (X.v (A.load Sh.s (O.t 17)))), (I.mk (some 19) none false (X.v (A.bin BinOp.lss (O.t 18) (O.k (V.int IntKind.i64 (Int.ofNat 0)))))), (I.mk (some 20) none false (X.v (A.mov (O.t 19)))), (I.mk (some 21) (some (20, false)) false (X.v (A.idxA (O.t 4) (O.k (V.int IntKind.i64 (Int.ofNat 0))) 2 1))), (I.mk (some 22) (some (20, false)) false (X.v (A.load Sh.s (O.t 21)))), (I.mk (some 23) (some (20, false)) false (X.v (A.idxA (O.t 4) (O.k (V.int IntKind.i64 (Int.ofNat 1))) 2 1))), (I.mk (some 24) (some (20, false)) false (X.v (A.load Sh.s (O.t 23)))), (I.mk (some 25) (some (20, false)) false (X.v (A.bin BinOp.geq (O.t 22) (O.t 24)))), (I.mk (some 26) none false (X.v (A.pick (O.t 20) (O.k (V.bool true)) (O.t 25)))), (I.mk (some 27) none false (X.v (A.mov (O.t 26)))), (I.mk (some 28) (some (27, false)) false (X.v (A.idxA (O.t 4) (O.k (V.int IntKind.i64 (Int.ofNat 1))) 2 1))), (I.mk (some 29) (some (27, false)) false (X.v (A.load Sh.s (O.t 28)))), (I.mk (some 30) (some (27, false)) false (X.v (A.fld (O.t 1) 0 0))), (I.mk (some 31) (some (27, false)) false (X.v (A.load Sh.s (O.t 30)))), (I.mk (some 32) (some (27, false)) false (X.v (A.bin BinOp.geq (O.t 29) (O.t 31)))), (I.mk (some 33) none false (X.v (A.pick (O.t 27) (O.k (V.bool true)) (O.t 32)))), (I.mk (some 34) none false (X.v (A.mov (O.t 33)))), (I.mk (some 35) (some (34, false)) false (X.v (A.mov (O.t 3)))), (I.mk (some 36) (some (34, false)) false (X.v (A.bin BinOp.gtr (O.t 35) (O.k (V.int IntKind.i64 (Int.ofNat 0)))))), (I.mk (some 37) (some (34, false)) false (X.v (A.mov (O.t 36)))), (I.mk (some 38) (some (37, true)) false (X.v (A.fld (O.t 1) 1 1))), (I.mk (some 39) (some (37, true)) false (X.v (A.load Sh.p (O.t 38)))), (I.mk (some 40) (some (37, true)) false (X.v (A.mov (O.t 3)))), (I.mk (some 41) (some (37, true)) false (X.v (A.bin BinOp.sub (O.t 40) (O.k (V.int IntKind.i64 (Int.ofNat 1)))))), (I.mk (some 42) (some (37, true)) false (X.v (A.idx (O.t 39) (O.t 41) 2))), (I.mk (some 43) (some (37, true)) false (X.v (A.sliceA (O.t 42) 2 Sh.s))), (I.mk (some 44) (some (37, true)) false (X.v (A.sliceA (O.t 4) 2 Sh.s))), (I.mk (some 45) (some (37, true)) false (X.call (O.k (V.fn 100 [] [])) [(O.t 43), (O.t 44)])), (I.mk (some 46) (some (37, true)) false (X.v (A.bin BinOp.geq (O.t 45) (O.k (V.int IntKind.i64 (Int.ofNat 0)))))), (I.mk (some 47) (some (34, false)) false (X.v (A.pick (O.t 37) (O.t 46) (O.k (V.bool false))))), (I.mk (some 48) none false (X.v (A.pick (O.t 34) (O.k (V.bool true)) (O.t 47))))] []) A50_5)
def A50_6 : AC := (AC.reg [] [(I.mk (some 49) none false (X.v (A.bin BinOp.add (O.t 12) (O.k (V.int IntKind.i64 (Int.ofNat 1)))))), (I.mk (some 12) none false (X.v (A.mov (O.t 49))))] [])
def A50_3 : AC := (AC.seq (AC.block 1 (AC.seq (AC.reg [.clr [4]] [(I.mk (some 14) none false (X.v (A.mov (O.t 12)))), (I.mk (some 15) none false (X.v (A.idx (O.t 10) (O.t 12) 2))), (I.mk (some 16) none false (X.v (A.load (Sh.ag [Sh.s, Sh.s]) (O.t 15)))), (I.mk (some 4) none false (X.alloc (V.agg [(V.int IntKind.i64 (Int.ofNat 0)), (V.int IntKind.i64 (Int.ofNat 0))]))), (I.mk (some 3) none false (X.v (A.mov (O.t 14)))), (I.mk none none false (X.store (Sh.ag [Sh.s, Sh.s]) (O.t 4) (O.t 16)))] []) A50_4)) A50_6)
def A50_2 : AC := (AC.seq (AC.cond (O.t 13) AC.skip (AC.exit 0)) A50_3)
def A50_1 : AC := (AC.seq (AC.reg [] [(I.mk (some 13) none false (X.v (A.bin BinOp.lss (O.t 12) (O.t 11))))] []) A50_2)
def A50_7 : AC := (AC.seq (AC.reg [] [(I.mk (some 2) none false (X.v (A.mov (O.k (V.bool true)))))] []) AC.ret)
def A50_9 : AC := (AC.cond (O.t 8) (AC.seq (AC.reg [] [(I.mk (some 2) none false (X.v (A.mov (O.k (V.bool false)))))] []) AC.ret) AC.skip)
def A50_11 : AC := (AC.block 0 (AC.loop A50_1))
def A50_10 : AC := (AC.seq (AC.seq (AC.reg [] [(I.mk (some 9) none false (X.v (A.fld (O.t 1) 1 1))), (I.mk (some 10) none false (X.v (A.load Sh.p (O.t 9)))), (I.mk (some 11) none false (X.v (A.len (O.t 10)))), (I.mk (some 12) none false (X.v (A.mov (O.k (V.int IntKind.i64 (Int.ofNat 0))))))] []) A50_11) A50_7)
def A50_8 : AC := (AC.seq (AC.seq (AC.reg [] [(I.mk (some 5) none false (X.v (A.fld (O.t 1) 0 0))), (I.mk (some 6) none false (X.v (A.load Sh.s (O.t 5)))), (I.mk (some 7) none false (X.call (O.k (V.fn 66 [] [])) [(O.t 6), (O.k (V.int IntKind.i64 (Int.ofNat 0))), (O.k (V.int IntKind.i64 (Int.ofNat 8)))])), (I.mk (some 8) none false (X.v (A.un UnOp.not (O.t 7))))] []) A50_9) A50_10)
def A50 : AC := (AC.seq (AC.reg [.clr [1]] [(I.mk (some 1) none false (X.box (O.t 0))), (I.mk (some 2) none false (X.v (A.mov (O.k (V.bool false)))))] []) A50_8)
def an50 : List An := [{ id := 0, pre := [.clr [1]], ep := [], lin := [], sp := [] }, { id := 5, pre := [.clr [4]], ep := [], lin := [], sp := [] }]
theorem c50 : cC Try.prog Try.f50.ntmps an50 (Try.f50.body.getD .skip) = some A50 := by kernel_rfl
structure H50 (D : Den) (σ : Sig) (F : Nat) : Prop where
  c66 : ∀ (x0 : Int) (x1 : Int) (x2 : Int) r, i_within F x0 x1 x2 = some r → D 66 [Enc.enc x0, Enc.enc x1, Enc.enc x2] = some (Enc.enc (r : Bool))
  g66 : σ 66 = some (0, false)
  c100 : ∀ (x0 : (List Int)) (x1 : (List Int)) r, slices_Compare F x0 x1 = some r → D 100 [Enc.enc x0, Enc.enc x1] = some (Enc.enc (r : Int))
  g100 : σ 100 = some (0, false)
abbrev R50 (r : Bool) : (Nat → V) → Prop := RR Try.prog [.tmp 2] 0 false (Enc.enc (r : Bool))
section
variable {D : Den} {σ : Sig} {F : Nat} {r : Bool}
def i_IsGraph_j1 (F : Nat) (g_1 : (Int × (List (Int × Int)))) (t12_9 : Int) (c1 : Int → Option Bool) (t48_19 : Bool) : Option Bool :=
  bif t48_19 then
    some false
  else
    c1 (w64 (t12_9 + 1))
theorem t_f50_j1 (H : H50 D σ F) (g_1 : (Int × (List (Int × Int)))) (t12_9 : Int) (c1 : Int → Option Bool) (Hc1 : ∀ (t12_9 : Int) (s : Nat → V), Facts [(1, (.ref (.bx 1) 0 [] (.agg [(.int .i64 g_1.1), (Enc.enc (g_1.2 : List (Int × Int)))]))), (2, (.bool false)), (10, (Enc.enc (g_1.2 : List (Int × Int)))), (11, (.int .i64 (g_1.2.length : Int))), (12, (.int .i64 t12_9))] s → c1 t12_9 = some r → Run D σ (R50 r) (.run A50_1 [.lp A50_1, .bk 0, .sq A50_7]) s) (t48_19 : Bool) (s : Nat → V) (hs : Facts [(1, (.ref (.bx 1) 0 [] (.agg [(.int .i64 g_1.1), (Enc.enc (g_1.2 : List (Int × Int)))]))), (2, (.bool false)), (10, (Enc.enc (g_1.2 : List (Int × Int)))), (11, (.int .i64 (g_1.2.length : Int))), (12, (.int .i64 t12_9)), (48, (.bool t48_19))] s) (h : i_IsGraph_j1 F g_1 t12_9 c1 t48_19 = some r) : Run D σ (R50 r) (.nrm [.sq A50_5, .bk 1, .sq A50_6, .lp A50_1, .bk 0, .sq A50_7]) s := by
  unfold i_IsGraph_j1 at h
  obtain ⟨h1, h2, h10, h11, h12, h48⟩ := hs
  refine .nsq ?_
  refine run_cond (t := t48_19) h48 h (fun h => ?_) (fun h => ?_)
  · refine .seq ?_
    refine run_reg ?_
    refine e_end ?_
    refine g_v0 (.bool false) rfl rfl ?_
    refine g_end ?_
    refine e_end ?_
    refine renew [(1, (.ref (.bx 1) 0 [] (.agg [(.int .i64 g_1.1), (Enc.enc (g_1.2 : List (Int × Int)))]))), (2, (.bool false)), (10, (Enc.enc (g_1.2 : List (Int × Int)))), (11, (.int .i64 (g_1.2.length : Int))), (12, (.int .i64 t12_9))] ⟨h1, rfl, h10, h11, h12⟩ ?_
    rintro s ⟨h1, h2, h10, h11, h12⟩
    refine .nsq ?_
    refine .ret ?_
    have hr := Option.some.inj h
    subst hr
    exact rrA (res_tmp h2) rfl
  · refine .skip ?_
    refine .nbk ?_
    refine .nsq ?_
    refine run_reg ?_
    refine e_end ?_
    refine g_v1 (t := 12) (u := (.int .i64 t12_9)) (.int .i64 (w64 (t12_9 + 1))) h12 rfl rfl ?_
    refine g_v1 (t := 49) (u := (.int .i64 (w64 (t12_9 + 1)))) (.int .i64 (w64 (t12_9 + 1))) rfl rfl rfl ?_
    refine g_end ?_
    refine e_end ?_
    refine renew [(1, (.ref (.bx 1) 0 [] (.agg [(.int .i64 g_1.1), (Enc.enc (g_1.2 : List (Int × Int)))]))), (2, (.bool false)), (10, (Enc.enc (g_1.2 : List (Int × Int)))), (11, (.int .i64 (g_1.2.length : Int))), (12, (.int .i64 (w64 (t12_9 + 1))))] ⟨h1, h2, h10, h11, rfl⟩ ?_
    rintro s ⟨h1, h2, h10, h11, h12⟩
    refine .nlp ?_
    exact Hc1 (w64 (t12_9 + 1)) _ ⟨h1, h2, h10, h11, h12⟩ h
def i_IsGraph_l1 (F : Nat) (g_1 : (Int × (List (Int × Int))))  : Nat → Int → Option Bool
  | 0, _ => none
  | k + 1, t12_9 =>
    bif decide (t12_9 < (g_1.2.length : Int)) then
      (idx g_1.2 t12_9).bind fun e_16 =>
      bif decide (e_16.1 < 0) then
        i_IsGraph_j1 F g_1 t12_9 (i_IsGraph_l1 F g_1 k) true
      else
        bif decide (e_16.1 ≥ e_16.2) then
          i_IsGraph_j1 F g_1 t12_9 (i_IsGraph_l1 F g_1 k) true
        else
          bif decide (e_16.2 ≥ g_1.1) then
            i_IsGraph_j1 F g_1 t12_9 (i_IsGraph_l1 F g_1 k) true
          else
            bif decide (t12_9 > 0) then
              (idx g_1.2 (w64 (t12_9 - 1))).bind fun e_20 =>
              (slices_Compare F [e_20.1, e_20.2] [e_16.1, e_16.2]).bind fun r_21 =>
              i_IsGraph_j1 F g_1 t12_9 (i_IsGraph_l1 F g_1 k) (decide (r_21 ≥ 0))
            else
              i_IsGraph_j1 F g_1 t12_9 (i_IsGraph_l1 F g_1 k) false
    else
      some true
theorem t_f50_l1 (H : H50 D σ F) (g_1 : (Int × (List (Int × Int))))  : ∀ (k : Nat) (t12_9 : Int) (s : Nat → V), Facts [(1, (.ref (.bx 1) 0 [] (.agg [(.int .i64 g_1.1), (Enc.enc (g_1.2 : List (Int × Int)))]))), (2, (.bool false)), (10, (Enc.enc (g_1.2 : List (Int × Int)))), (11, (.int .i64 (g_1.2.length : Int))), (12, (.int .i64 t12_9))] s → i_IsGraph_l1 F g_1 k t12_9 = some r → Run D σ (R50 r) (.run A50_1 [.lp A50_1, .bk 0, .sq A50_7]) s := by
  intro k
  induction k with
  | zero => intro t12_9 s _ h; exact nomatch (h : (none : Option _) = some r)
  | succ k ih =>
    intro t12_9 s hs h
    rw [i_IsGraph_l1] at h
    obtain ⟨h1, h2, h10, h11, h12⟩ := hs
    refine .seq ?_
    refine run_reg ?_
    refine e_end ?_
    refine g_v2 (t1 := 12) (t2 := 11) (u1 := (.int .i64 t12_9)) (u2 := (.int .i64 (g_1.2.length : Int))) (.bool (decide (t12_9 < (g_1.2.length : Int)))) h12 h11 rfl rfl ?_
    refine g_end ?_
    refine e_end ?_
    refine renew [(1, (.ref (.bx 1) 0 [] (.agg [(.int .i64 g_1.1), (Enc.enc (g_1.2 : List (Int × Int)))]))), (2, (.bool false)), (10, (Enc.enc (g_1.2 : List (Int × Int)))), (11, (.int .i64 (g_1.2.length : Int))), (12, (.int .i64 t12_9)), (13, (.bool (decide (t12_9 < (g_1.2.length : Int)))))] ⟨h1, h2, h10, h11, h12, rfl⟩ ?_
    rintro s ⟨h1, h2, h10, h11, h12, h13⟩
    refine .nsq ?_
    refine .seq ?_
    refine run_cond (t := decide (t12_9 < (g_1.2.length : Int))) h13 h (fun h => ?_) (fun h => ?_)
    · refine .skip ?_
      refine .nsq ?_
      refine .seq ?_
      refine .block ?_
      refine .seq ?_
      refine run_reg ?_
      refine e_clr ?_
      refine e_end ?_
      refine g_v1 (t := 12) (u := (.int .i64 t12_9)) (.int .i64 t12_9) (keep_clear (s := s) (pk := [4]) h12 rfl rfl) rfl rfl ?_
      obtain ⟨e_16, E_e_16, h⟩ := bind_some h
      refine g_v (.ref .sh 0 [] (.agg [(.int .i64 e_16.1), (.int .i64 e_16.2)])) (ev_idx (t := .sh) (lo := 0) (xs := g_1.2) (keep_clear (s := s) (pk := [4]) h10 rfl (Enc.map_enc _ (g_1.2 : List (Int × Int)))) (keep_clear (s := s) (pk := [4]) h12 rfl rfl) E_e_16 rfl rfl) ?_
      refine g_v1 (t := 15) (u := (.ref .sh 0 [] (.agg [(.int .i64 e_16.1), (.int .i64 e_16.2)]))) (.agg [(.int .i64 e_16.1), (.int .i64 e_16.2)]) rfl rfl rfl ?_
      refine g_alloc (gone_clear (s := s) (pk := [4]) (t := 4) rfl) ?_
      refine g_v1 (t := 14) (u := (.int .i64 t12_9)) (.int .i64 t12_9) rfl rfl rfl ?_
      refine g_store (.agg [(.int .i64 e_16.1), (.int .i64 e_16.2)]) (rd_of rfl rfl) (rd_of rfl rfl) (by refine ⟨by decide, by decide, rfl, rfl, rfl, ?_⟩; first | rfl | simp [V.toks, V.tokss, Enc.toks_enc]) ?_
      refine g_end ?_
      refine e_end ?_
      refine renew [(1, (.ref (.bx 1) 0 [] (.agg [(.int .i64 g_1.1), (Enc.enc (g_1.2 : List (Int × Int)))]))), (2, (.bool false)), (3, (.int .i64 t12_9)), (4, (.ref (.bx 4) 0 [] (.agg [(.int .i64 e_16.1), (.int .i64 e_16.2)]))), (10, (Enc.enc (g_1.2 : List (Int × Int)))), (11, (.int .i64 (g_1.2.length : Int))), (12, (.int .i64 t12_9))] ⟨(keep_mut (keep_clear (s := s) (pk := [4]) h1 rfl (map_bx rfl (map_agg (maps_cons rfl (maps_cons (Enc.map_enc _ (g_1.2 : List (Int × Int))) maps_nil))))) (mut_ref_ne rfl rfl (mut_agg (muts_cons rfl (muts_cons (Enc.mut_enc _ _ _ _ (g_1.2 : List (Int × Int))) rfl))))), (keep_mut (keep_clear (s := s) (pk := [4]) h2 rfl rfl) rfl), (keep_mut rfl rfl), (keep_mut rfl rfl), (keep_mut (keep_clear (s := s) (pk := [4]) h10 rfl (Enc.map_enc _ (g_1.2 : List (Int × Int)))) (Enc.mut_enc _ _ _ _ (g_1.2 : List (Int × Int)))), (keep_mut (keep_clear (s := s) (pk := [4]) h11 rfl rfl) rfl), (keep_mut (keep_clear (s := s) (pk := [4]) h12 rfl rfl) rfl)⟩ ?_
      rintro s ⟨h1, h2, h3, h4, h10, h11, h12⟩
      refine .nsq ?_
      refine .seq ?_
      refine run_reg ?_
      refine e_end ?_
      refine g_v1 (t := 4) (u := (.ref (.bx 4) 0 [] (.agg [(.int .i64 e_16.1), (.int .i64 e_16.2)]))) (.ref (.bx 4) 0 [0] (.int .i64 e_16.1)) h4 rfl rfl ?_
      refine g_v1 (t := 17) (u := (.ref (.bx 4) 0 [0] (.int .i64 e_16.1))) (.int .i64 e_16.1) rfl rfl rfl ?_
      refine g_v1 (t := 18) (u := (.int .i64 e_16.1)) (.bool (decide (e_16.1 < 0))) rfl rfl rfl ?_
      refine g_v1 (t := 19) (u := (.bool (decide (e_16.1 < 0)))) (.bool (decide (e_16.1 < 0))) rfl rfl rfl ?_
      refine split_on (c := decide (e_16.1 < 0)) h (fun hg4 h => ?_) (fun hg4 h => ?_)
      · refine g_no (Eq.trans (b := .bool (decide (e_16.1 < 0))) rfl (congrArg V.bool hg4)) ?_
        refine g_no (Eq.trans (b := .bool (decide (e_16.1 < 0))) rfl (congrArg V.bool hg4)) ?_
        refine g_no (Eq.trans (b := .bool (decide (e_16.1 < 0))) rfl (congrArg V.bool hg4)) ?_
        refine g_no (Eq.trans (b := .bool (decide (e_16.1 < 0))) rfl (congrArg V.bool hg4)) ?_
        refine g_no (Eq.trans (b := .bool (decide (e_16.1 < 0))) rfl (congrArg V.bool hg4)) ?_
        refine g_v2 (t1 := 20) (t2 := 25) (u1 := (.bool true)) (u2 := (.tup [])) (.bool true) (Eq.trans (b := .bool (decide (e_16.1 < 0))) rfl (congrArg V.bool hg4)) rfl rfl rfl ?_
        refine g_v1 (t := 26) (u := (.bool true)) (.bool true) rfl rfl rfl ?_
        refine g_no rfl ?_
        refine g_no rfl ?_
        refine g_no rfl ?_
        refine g_no rfl ?_
        refine g_no rfl ?_
        refine g_v2 (t1 := 27) (t2 := 32) (u1 := (.bool true)) (u2 := (.tup [])) (.bool true) rfl rfl rfl rfl ?_
        refine g_v1 (t := 33) (u := (.bool true)) (.bool true) rfl rfl rfl ?_
        refine g_no rfl ?_
        refine g_no rfl ?_
        refine g_no rfl ?_
        refine g_skip rfl ?_
        refine g_skip rfl ?_
        refine g_skip rfl ?_
        refine g_skip rfl ?_
        refine g_skip rfl ?_
        refine g_skip rfl ?_
        refine g_skip rfl ?_
        refine g_skip rfl ?_
        refine g_skip rfl ?_
        refine g_no rfl ?_
        refine g_v2 (t1 := 34) (t2 := 47) (u1 := (.bool true)) (u2 := (.tup [])) (.bool true) rfl rfl rfl rfl ?_
        refine g_end ?_
        refine e_end ?_
        refine renew [(1, (.ref (.bx 1) 0 [] (.agg [(.int .i64 g_1.1), (Enc.enc (g_1.2 : List (Int × Int)))]))), (2, (.bool false)), (10, (Enc.enc (g_1.2 : List (Int × Int)))), (11, (.int .i64 (g_1.2.length : Int))), (12, (.int .i64 t12_9)), (48, (.bool true))] ⟨h1, h2, h10, h11, h12, rfl⟩ ?_
        rintro s ⟨h1, h2, h10, h11, h12, h48⟩
        exact t_f50_j1 H g_1 t12_9 (i_IsGraph_l1 F g_1 k) ih true _ ⟨h1, h2, h10, h11, h12, h48⟩ h
      · refine g_yes (Eq.trans (b := .bool (decide (e_16.1 < 0))) rfl (congrArg V.bool hg4)) (g_v1 (t := 4) (u := (.ref (.bx 4) 0 [] (.agg [(.int .i64 e_16.1), (.int .i64 e_16.2)]))) (.ref (.bx 4) 0 [0] (.int .i64 e_16.1)) h4 rfl rfl ?_)
        refine g_yes (Eq.trans (b := .bool (decide (e_16.1 < 0))) rfl (congrArg V.bool hg4)) (g_v1 (t := 21) (u := (.ref (.bx 4) 0 [0] (.int .i64 e_16.1))) (.int .i64 e_16.1) rfl rfl rfl ?_)
        refine g_yes (Eq.trans (b := .bool (decide (e_16.1 < 0))) rfl (congrArg V.bool hg4)) (g_v1 (t := 4) (u := (.ref (.bx 4) 0 [] (.agg [(.int .i64 e_16.1), (.int .i64 e_16.2)]))) (.ref (.bx 4) 0 [1] (.int .i64 e_16.2)) h4 rfl rfl ?_)
        refine g_yes (Eq.trans (b := .bool (decide (e_16.1 < 0))) rfl (congrArg V.bool hg4)) (g_v1 (t := 23) (u := (.ref (.bx 4) 0 [1] (.int .i64 e_16.2))) (.int .i64 e_16.2) rfl rfl rfl ?_)
        refine g_yes (Eq.trans (b := .bool (decide (e_16.1 < 0))) rfl (congrArg V.bool hg4)) (g_v2 (t1 := 22) (t2 := 24) (u1 := (.int .i64 e_16.1)) (u2 := (.int .i64 e_16.2)) (.bool (decide (e_16.1 ≥ e_16.2))) rfl rfl rfl rfl ?_)
        refine g_v2 (t1 := 20) (t2 := 25) (u1 := (.bool false)) (u2 := (.bool (decide (e_16.1 ≥ e_16.2)))) (.bool (decide (e_16.1 ≥ e_16.2))) (Eq.trans (b := .bool (decide (e_16.1 < 0))) rfl (congrArg V.bool hg4)) rfl rfl rfl ?_
        refine g_v1 (t := 26) (u := (.bool (decide (e_16.1 ≥ e_16.2)))) (.bool (decide (e_16.1 ≥ e_16.2))) rfl rfl rfl ?_
        refine split_on (c := decide (e_16.1 ≥ e_16.2)) h (fun hg11 h => ?_) (fun hg11 h => ?_)
        · refine g_no (Eq.trans (b := .bool (decide (e_16.1 ≥ e_16.2))) rfl (congrArg V.bool hg11)) ?_
          refine g_no (Eq.trans (b := .bool (decide (e_16.1 ≥ e_16.2))) rfl (congrArg V.bool hg11)) ?_
          refine g_no (Eq.trans (b := .bool (decide (e_16.1 ≥ e_16.2))) rfl (congrArg V.bool hg11)) ?_
          refine g_no (Eq.trans (b := .bool (decide (e_16.1 ≥ e_16.2))) rfl (congrArg V.bool hg11)) ?_
          refine g_no (Eq.trans (b := .bool (decide (e_16.1 ≥ e_16.2))) rfl (congrArg V.bool hg11)) ?_
          refine g_v2 (t1 := 27) (t2 := 32) (u1 := (.bool true)) (u2 := (.tup [])) (.bool true) (Eq.trans (b := .bool (decide (e_16.1 ≥ e_16.2))) rfl (congrArg V.bool hg11)) rfl rfl rfl ?_
          refine g_v1 (t := 33) (u := (.bool true)) (.bool true) rfl rfl rfl ?_
          refine g_no rfl ?_
          refine g_no rfl ?_
          refine g_no rfl ?_
          refine g_skip rfl ?_
          refine g_skip rfl ?_
          refine g_skip rfl ?_
          refine g_skip rfl ?_
          refine g_skip rfl ?_
          refine g_skip rfl ?_
          refine g_skip rfl ?_
          refine g_skip rfl ?_
          refine g_skip rfl ?_
          refine g_no rfl ?_
          refine g_v2 (t1 := 34) (t2 := 47) (u1 := (.bool true)) (u2 := (.tup [])) (.bool true) rfl rfl rfl rfl ?_
          refine g_end ?_
          refine e_end ?_
          refine renew [(1, (.ref (.bx 1) 0 [] (.agg [(.int .i64 g_1.1), (Enc.enc (g_1.2 : List (Int × Int)))]))), (2, (.bool false)), (10, (Enc.enc (g_1.2 : List (Int × Int)))), (11, (.int .i64 (g_1.2.length : Int))), (12, (.int .i64 t12_9)), (48, (.bool true))] ⟨h1, h2, h10, h11, h12, rfl⟩ ?_
          rintro s ⟨h1, h2, h10, h11, h12, h48⟩
          exact t_f50_j1 H g_1 t12_9 (i_IsGraph_l1 F g_1 k) ih true _ ⟨h1, h2, h10, h11, h12, h48⟩ h
        · refine g_yes (Eq.trans (b := .bool (decide (e_16.1 ≥ e_16.2))) rfl (congrArg V.bool hg11)) (g_v1 (t := 4) (u := (.ref (.bx 4) 0 [] (.agg [(.int .i64 e_16.1), (.int .i64 e_16.2)]))) (.ref (.bx 4) 0 [1] (.int .i64 e_16.2)) h4 rfl rfl ?_)
          refine g_yes (Eq.trans (b := .bool (decide (e_16.1 ≥ e_16.2))) rfl (congrArg V.bool hg11)) (g_v1 (t := 28) (u := (.ref (.bx 4) 0 [1] (.int .i64 e_16.2))) (.int .i64 e_16.2) rfl rfl rfl ?_)
          refine g_yes (Eq.trans (b := .bool (decide (e_16.1 ≥ e_16.2))) rfl (congrArg V.bool hg11)) (g_v1 (t := 1) (u := (.ref (.bx 1) 0 [] (.agg [(.int .i64 g_1.1), (Enc.enc (g_1.2 : List (Int × Int)))]))) (.ref (.bx 1) 0 [0] (.int .i64 g_1.1)) h1 rfl rfl ?_)
          refine g_yes (Eq.trans (b := .bool (decide (e_16.1 ≥ e_16.2))) rfl (congrArg V.bool hg11)) (g_v1 (t := 30) (u := (.ref (.bx 1) 0 [0] (.int .i64 g_1.1))) (.int .i64 g_1.1) rfl rfl rfl ?_)
          refine g_yes (Eq.trans (b := .bool (decide (e_16.1 ≥ e_16.2))) rfl (congrArg V.bool hg11)) (g_v2 (t1 := 29) (t2 := 31) (u1 := (.int .i64 e_16.2)) (u2 := (.int .i64 g_1.1)) (.bool (decide (e_16.2 ≥ g_1.1))) rfl rfl rfl rfl ?_)
          refine g_v2 (t1 := 27) (t2 := 32) (u1 := (.bool false)) (u2 := (.bool (decide (e_16.2 ≥ g_1.1)))) (.bool (decide (e_16.2 ≥ g_1.1))) (Eq.trans (b := .bool (decide (e_16.1 ≥ e_16.2))) rfl (congrArg V.bool hg11)) rfl rfl rfl ?_
          refine g_v1 (t := 33) (u := (.bool (decide (e_16.2 ≥ g_1.1)))) (.bool (decide (e_16.2 ≥ g_1.1))) rfl rfl rfl ?_
          refine split_on (c := decide (e_16.2 ≥ g_1.1)) h (fun hg18 h => ?_) (fun hg18 h => ?_)
          · refine g_no (Eq.trans (b := .bool (decide (e_16.2 ≥ g_1.1))) rfl (congrArg V.bool hg18)) ?_
            refine g_no (Eq.trans (b := .bool (decide (e_16.2 ≥ g_1.1))) rfl (congrArg V.bool hg18)) ?_
            refine g_no (Eq.trans (b := .bool (decide (e_16.2 ≥ g_1.1))) rfl (congrArg V.bool hg18)) ?_
            refine g_skip rfl ?_
            refine g_skip rfl ?_
            refine g_skip rfl ?_
            refine g_skip rfl ?_
            refine g_skip rfl ?_
            refine g_skip rfl ?_
            refine g_skip rfl ?_
            refine g_skip rfl ?_
            refine g_skip rfl ?_
            refine g_no (Eq.trans (b := .bool (decide (e_16.2 ≥ g_1.1))) rfl (congrArg V.bool hg18)) ?_
            refine g_v2 (t1 := 34) (t2 := 47) (u1 := (.bool true)) (u2 := (.tup [])) (.bool true) (Eq.trans (b := .bool (decide (e_16.2 ≥ g_1.1))) rfl (congrArg V.bool hg18)) rfl rfl rfl ?_
            refine g_end ?_
            refine e_end ?_
            refine renew [(1, (.ref (.bx 1) 0 [] (.agg [(.int .i64 g_1.1), (Enc.enc (g_1.2 : List (Int × Int)))]))), (2, (.bool false)), (10, (Enc.enc (g_1.2 : List (Int × Int)))), (11, (.int .i64 (g_1.2.length : Int))), (12, (.int .i64 t12_9)), (48, (.bool true))] ⟨h1, h2, h10, h11, h12, rfl⟩ ?_
            rintro s ⟨h1, h2, h10, h11, h12, h48⟩
            exact t_f50_j1 H g_1 t12_9 (i_IsGraph_l1 F g_1 k) ih true _ ⟨h1, h2, h10, h11, h12, h48⟩ h
          · refine g_yes (Eq.trans (b := .bool (decide (e_16.2 ≥ g_1.1))) rfl (congrArg V.bool hg18)) (g_v1 (t := 3) (u := (.int .i64 t12_9)) (.int .i64 t12_9) h3 rfl rfl ?_)
            refine g_yes (Eq.trans (b := .bool (decide (e_16.2 ≥ g_1.1))) rfl (congrArg V.bool hg18)) (g_v1 (t := 35) (u := (.int .i64 t12_9)) (.bool (decide (t12_9 > 0))) rfl rfl rfl ?_)
            refine g_yes (Eq.trans (b := .bool (decide (e_16.2 ≥ g_1.1))) rfl (congrArg V.bool hg18)) (g_v1 (t := 36) (u := (.bool (decide (t12_9 > 0)))) (.bool (decide (t12_9 > 0))) rfl rfl rfl ?_)
            refine split_on (c := decide (t12_9 > 0)) h (fun hg21 h => ?_) (fun hg21 h => ?_)
            · refine g_yes (Eq.trans (b := .bool (decide (t12_9 > 0))) rfl (congrArg V.bool hg21)) (g_v1 (t := 1) (u := (.ref (.bx 1) 0 [] (.agg [(.int .i64 g_1.1), (Enc.enc (g_1.2 : List (Int × Int)))]))) (.ref (.bx 1) 0 [1] (Enc.enc (g_1.2 : List (Int × Int)))) h1 rfl rfl ?_)
              refine g_yes (Eq.trans (b := .bool (decide (t12_9 > 0))) rfl (congrArg V.bool hg21)) (g_v1 (t := 38) (u := (.ref (.bx 1) 0 [1] (Enc.enc (g_1.2 : List (Int × Int))))) (Enc.enc (g_1.2 : List (Int × Int))) rfl rfl rfl ?_)
              refine g_yes (Eq.trans (b := .bool (decide (t12_9 > 0))) rfl (congrArg V.bool hg21)) (g_v1 (t := 3) (u := (.int .i64 t12_9)) (.int .i64 t12_9) h3 rfl rfl ?_)
              refine g_yes (Eq.trans (b := .bool (decide (t12_9 > 0))) rfl (congrArg V.bool hg21)) (g_v1 (t := 40) (u := (.int .i64 t12_9)) (.int .i64 (w64 (t12_9 - 1))) rfl rfl rfl ?_)
              obtain ⟨e_20, E_e_20, h⟩ := bind_some h
              refine g_yes (Eq.trans (b := .bool (decide (t12_9 > 0))) rfl (congrArg V.bool hg21)) (g_v (.ref .sh 0 [] (.agg [(.int .i64 e_20.1), (.int .i64 e_20.2)])) (ev_idx (t := .sh) (lo := 0) (xs := g_1.2) rfl rfl E_e_20 rfl rfl) ?_)
              refine g_yes (Eq.trans (b := .bool (decide (t12_9 > 0))) rfl (congrArg V.bool hg21)) (g_v1 (t := 42) (u := (.ref .sh 0 [] (.agg [(.int .i64 e_20.1), (.int .i64 e_20.2)]))) (Enc.enc ([e_20.1, e_20.2] : List Int)) rfl rfl rfl ?_)
              refine g_yes (Eq.trans (b := .bool (decide (t12_9 > 0))) rfl (congrArg V.bool hg21)) (g_v1 (t := 4) (u := (.ref (.bx 4) 0 [] (.agg [(.int .i64 e_16.1), (.int .i64 e_16.2)]))) (encO (.bx 4) (.of ([e_16.1, e_16.2] : List Int))) h4 rfl rfl ?_)
              obtain ⟨r_21, E_r_21, h⟩ := bind_some h
              refine g_yes (Eq.trans (b := .bool (decide (t12_9 > 0))) rfl (congrArg V.bool hg21)) (g_call (m := 0) (al := false) (r := (Enc.enc (r_21 : Int))) [Enc.enc ([e_20.1, e_20.2] : (List Int)), Enc.enc ([e_16.1, e_16.2] : (List Int))] (ta_cons (v := (Enc.enc ([e_20.1, e_20.2] : List Int))) rfl rfl (Enc.erase_enc ([e_20.1, e_20.2] : (List Int))) (ta_cons (v := (encO (.bx 4) (.of ([e_16.1, e_16.2] : List Int)))) rfl rfl (erase_encO (o := .of [e_16.1, e_16.2])) ta_nil)) (H.c100 _ _ _ E_r_21) H.g100 rfl rfl rfl rfl ?_)
              refine g_yes (Eq.trans (b := .bool (decide (t12_9 > 0))) rfl (congrArg V.bool hg21)) (g_v1 (t := 45) (u := (.int .i64 r_21)) (.bool (decide (r_21 ≥ 0))) rfl rfl rfl ?_)
              refine g_yes (Eq.trans (b := .bool (decide (e_16.2 ≥ g_1.1))) rfl (congrArg V.bool hg18)) (g_v2 (t1 := 37) (t2 := 46) (u1 := (.bool true)) (u2 := (.bool (decide (r_21 ≥ 0)))) (.bool (decide (r_21 ≥ 0))) (Eq.trans (b := .bool (decide (t12_9 > 0))) rfl (congrArg V.bool hg21)) rfl rfl rfl ?_)
              refine g_v2 (t1 := 34) (t2 := 47) (u1 := (.bool false)) (u2 := (.bool (decide (r_21 ≥ 0)))) (.bool (decide (r_21 ≥ 0))) (Eq.trans (b := .bool (decide (e_16.2 ≥ g_1.1))) rfl (congrArg V.bool hg18)) rfl rfl rfl ?_
              refine g_end ?_
              refine e_end ?_
              refine renew [(1, (.ref (.bx 1) 0 [] (.agg [(.int .i64 g_1.1), (Enc.enc (g_1.2 : List (Int × Int)))]))), (2, (.bool false)), (10, (Enc.enc (g_1.2 : List (Int × Int)))), (11, (.int .i64 (g_1.2.length : Int))), (12, (.int .i64 t12_9)), (48, (.bool (decide (r_21 ≥ 0))))] ⟨h1, h2, h10, h11, h12, rfl⟩ ?_
              rintro s ⟨h1, h2, h10, h11, h12, h48⟩
              exact t_f50_j1 H g_1 t12_9 (i_IsGraph_l1 F g_1 k) ih (decide (r_21 ≥ 0)) _ ⟨h1, h2, h10, h11, h12, h48⟩ h
            · refine g_no (Eq.trans (b := .bool (decide (t12_9 > 0))) rfl (congrArg V.bool hg21)) ?_
              refine g_no (Eq.trans (b := .bool (decide (t12_9 > 0))) rfl (congrArg V.bool hg21)) ?_
              refine g_no (Eq.trans (b := .bool (decide (t12_9 > 0))) rfl (congrArg V.bool hg21)) ?_
              refine g_no (Eq.trans (b := .bool (decide (t12_9 > 0))) rfl (congrArg V.bool hg21)) ?_
              refine g_no (Eq.trans (b := .bool (decide (t12_9 > 0))) rfl (congrArg V.bool hg21)) ?_
              refine g_no (Eq.trans (b := .bool (decide (t12_9 > 0))) rfl (congrArg V.bool hg21)) ?_
              refine g_no (Eq.trans (b := .bool (decide (t12_9 > 0))) rfl (congrArg V.bool hg21)) ?_
              refine g_no (Eq.trans (b := .bool (decide (t12_9 > 0))) rfl (congrArg V.bool hg21)) ?_
              refine g_no (Eq.trans (b := .bool (decide (t12_9 > 0))) rfl (congrArg V.bool hg21)) ?_
              refine g_yes (Eq.trans (b := .bool (decide (e_16.2 ≥ g_1.1))) rfl (congrArg V.bool hg18)) (g_v2 (t1 := 37) (t2 := 46) (u1 := (.bool false)) (u2 := (.tup [])) (.bool false) (Eq.trans (b := .bool (decide (t12_9 > 0))) rfl (congrArg V.bool hg21)) rfl rfl rfl ?_)
              refine g_v2 (t1 := 34) (t2 := 47) (u1 := (.bool false)) (u2 := (.bool false)) (.bool false) (Eq.trans (b := .bool (decide (e_16.2 ≥ g_1.1))) rfl (congrArg V.bool hg18)) rfl rfl rfl ?_
              refine g_end ?_
              refine e_end ?_
              refine renew [(1, (.ref (.bx 1) 0 [] (.agg [(.int .i64 g_1.1), (Enc.enc (g_1.2 : List (Int × Int)))]))), (2, (.bool false)), (10, (Enc.enc (g_1.2 : List (Int × Int)))), (11, (.int .i64 (g_1.2.length : Int))), (12, (.int .i64 t12_9)), (48, (.bool false))] ⟨h1, h2, h10, h11, h12, rfl⟩ ?_
              rintro s ⟨h1, h2, h10, h11, h12, h48⟩
              exact t_f50_j1 H g_1 t12_9 (i_IsGraph_l1 F g_1 k) ih false _ ⟨h1, h2, h10, h11, h12, h48⟩ h
    · refine .exit ?_
      refine .esq ?_
      refine .elp ?_
      refine .ebk ?_
      refine .nsq ?_
      refine .seq ?_
      refine run_reg ?_
      refine e_end ?_
      refine g_v0 (.bool true) rfl rfl ?_
      refine g_end ?_
      refine e_end ?_
      refine renew [(2, (.bool true))] rfl ?_
      rintro s h2
      refine .nsq ?_
      refine .ret ?_
      have hr := Option.some.inj h
      subst hr
      exact rrA (res_tmp h2) rfl
def i_IsGraph (F : Nat) (g_1 : (Int × (List (Int × Int)))) : Option Bool :=
  (i_within F g_1.1 0 8).bind fun r_2 =>
  bif (!r_2) then
    some false
  else
    i_IsGraph_l1 F g_1 F 0
theorem t50 (H : H50 D σ F) (g_1 : (Int × (List (Int × Int)))) (s : Nat → V) (hs : Facts [(0, (.agg [(.int .i64 g_1.1), (Enc.enc (g_1.2 : List (Int × Int)))]))] s) (h : i_IsGraph F g_1 = some r) : Run D σ (R50 r) (.run A50 []) s := by
  unfold i_IsGraph at h
  have h0 := hs
  refine .seq ?_
  refine run_reg ?_
  refine e_clr ?_
  refine e_end ?_
  refine g_box (.agg [(.int .i64 g_1.1), (Enc.enc (g_1.2 : List (Int × Int)))]) (rd_of (keep_clear (s := s) (pk := [1]) h0 rfl (map_agg (maps_cons rfl (maps_cons (Enc.map_enc _ (g_1.2 : List (Int × Int))) maps_nil)))) rfl) (gone_clear (s := s) (pk := [1]) (t := 1) rfl) rfl ?_
  refine g_v0 (.bool false) rfl rfl ?_
  refine g_end ?_
  refine e_end ?_
  refine renew [(1, (.ref (.bx 1) 0 [] (.agg [(.int .i64 g_1.1), (Enc.enc (g_1.2 : List (Int × Int)))]))), (2, (.bool false))] ⟨rfl, rfl⟩ ?_
  rintro s ⟨h1, h2⟩
  refine .nsq ?_
  refine .seq ?_
  refine .seq ?_
  refine run_reg ?_
  refine e_end ?_
  refine g_v1 (t := 1) (u := (.ref (.bx 1) 0 [] (.agg [(.int .i64 g_1.1), (Enc.enc (g_1.2 : List (Int × Int)))]))) (.ref (.bx 1) 0 [0] (.int .i64 g_1.1)) h1 rfl rfl ?_
  refine g_v1 (t := 5) (u := (.ref (.bx 1) 0 [0] (.int .i64 g_1.1))) (.int .i64 g_1.1) rfl rfl rfl ?_
  obtain ⟨r_2, E_r_2, h⟩ := bind_some h
  refine g_call (m := 0) (al := false) (r := (Enc.enc (r_2 : Bool))) [Enc.enc (g_1.1 : Int), Enc.enc (0 : Int), Enc.enc (8 : Int)] (ta_cons (v := (.int .i64 g_1.1)) rfl rfl rfl (ta_cons (v := (.int .i64 0)) rfl rfl rfl (ta_cons (v := (.int .i64 8)) rfl rfl rfl ta_nil))) (H.c66 _ _ _ _ E_r_2) H.g66 rfl rfl rfl rfl ?_
  refine g_v1 (t := 7) (u := (.bool r_2)) (.bool (!r_2)) rfl rfl rfl ?_
  refine g_end ?_
  refine e_end ?_
  refine renew [(1, (.ref (.bx 1) 0 [] (.agg [(.int .i64 g_1.1), (Enc.enc (g_1.2 : List (Int × Int)))]))), (2, (.bool false)), (8, (.bool (!r_2)))] ⟨h1, h2, rfl⟩ ?_
  rintro s ⟨h1, h2, h8⟩
  refine .nsq ?_
  refine run_cond (t := (!r_2)) h8 h (fun h => ?_) (fun h => ?_)
  · refine .seq ?_
    refine run_reg ?_
    refine e_end ?_
    refine g_v0 (.bool false) rfl rfl ?_
    refine g_end ?_
    refine e_end ?_
    refine renew [(1, (.ref (.bx 1) 0 [] (.agg [(.int .i64 g_1.1), (Enc.enc (g_1.2 : List (Int × Int)))]))), (2, (.bool false))] ⟨h1, rfl⟩ ?_
    rintro s ⟨h1, h2⟩
    refine .nsq ?_
    refine .ret ?_
    have hr := Option.some.inj h
    subst hr
    exact rrA (res_tmp h2) rfl
  · refine .skip ?_
    refine .nsq ?_
    refine .seq ?_
    refine .seq ?_
    refine run_reg ?_
    refine e_end ?_
    refine g_v1 (t := 1) (u := (.ref (.bx 1) 0 [] (.agg [(.int .i64 g_1.1), (Enc.enc (g_1.2 : List (Int × Int)))]))) (.ref (.bx 1) 0 [1] (Enc.enc (g_1.2 : List (Int × Int)))) h1 rfl rfl ?_
    refine g_v1 (t := 9) (u := (.ref (.bx 1) 0 [1] (Enc.enc (g_1.2 : List (Int × Int))))) (Enc.enc (g_1.2 : List (Int × Int))) rfl rfl rfl ?_
    refine g_v (.int .i64 (g_1.2.length : Int)) (ev_len (xs := g_1.2) rfl) ?_
    refine g_v0 (.int .i64 0) rfl rfl ?_
    refine g_end ?_
    refine e_end ?_
    refine renew [(1, (.ref (.bx 1) 0 [] (.agg [(.int .i64 g_1.1), (Enc.enc (g_1.2 : List (Int × Int)))]))), (2, (.bool false)), (10, (Enc.enc (g_1.2 : List (Int × Int)))), (11, (.int .i64 (g_1.2.length : Int))), (12, (.int .i64 0))] ⟨h1, h2, rfl, rfl, rfl⟩ ?_
    rintro s ⟨h1, h2, h10, h11, h12⟩
    refine .nsq ?_
    refine .block ?_
    refine .loop ?_
    exact t_f50_l1 H g_1 F 0 _ ⟨h1, h2, h10, h11, h12⟩ h
end
def e50 (F : Nat) : Ent := ⟨50, da (fun (x : ((Int × (List (Int × Int))) × Unit)) => i_IsGraph F x.1) (fun (r : Bool) => (Enc.enc (r : Bool))), 0, false, selF []⟩
theorem p50 {F : Nat} {x0 : (Int × (List (Int × Int)))} {r : Bool} (h : i_IsGraph F x0 = some r) : (e50 F).den [Enc.enc x0] = some (Enc.enc (r : Bool)) := da_put (f := fun (x : ((Int × (List (Int × Int))) × Unit)) => i_IsGraph F x.1) (t := fun (r : Bool) => (Enc.enc (r : Bool))) (x0, ()) h
theorem o50 {D : Den} {σ : Sig} {F : Nat} (hF : Fits2 Try.prog D σ) (H : H50 D σ F) : (e50 F).Ok Try.prog := by
  refine ok_of (f := 50) (show unk 50 = 50 from rfl) (fun args r h => ?_) ⟨Try.f50, Try.func50, rfl, rfl⟩
  obtain ⟨⟨x0, _⟩, y, rfl, hy, rfl⟩ := da_open h
  exact contract_run hF (by kernel_rfl) Try.func50 rfl c50 (show 1 ≤ Try.f50.ntmps by decide) (t50 H x0 _ rfl hy)
/- loop.example/g01109/impl.IsRanking$1 -/
def A75_1 : AC := (AC.seq (AC.reg [] [(I.mk (some 3) none false (X.v (A.mov (O.t 0)))), (I.mk (some 4) none false (X.v (A.bin BinOp.lss (O.t 3) (O.k (V.int IntKind.i64 (Int.ofNat 1)))))), (I.mk (some 2) none false (X.v (A.mov (O.t 4))))] []) AC.ret)
def A75 : AC := (AC.seq (AC.reg [] [(I.mk (some 2) none false (X.v (A.mov (O.k (V.bool false)))))] []) A75_1)
def an75 : List An := []
theorem c75 : cC Try.prog Try.f75.ntmps an75 (Try.f75.body.getD .skip) = some A75 := by kernel_rfl
structure H75 (D : Den) (σ : Sig) (F : Nat) : Prop where
  mk ::
abbrev R75 (r : Bool) : (Nat → V) → Prop := RR Try.prog [.tmp 2] 0 false (Enc.enc (r : Bool))
section
variable {D : Den} {σ : Sig} {F : Nat} {r : Bool}
def i_IsRanking_1 (F : Nat) (rank_1 : Int) : Option Bool :=
  some (decide (rank_1 < 1))
theorem t75 (H : H75 D σ F) (rank_1 : Int) (s : Nat → V) (hs : Facts [(0, (.int .i64 rank_1))] s) (h : i_IsRanking_1 F rank_1 = some r) : Run D σ (R75 r) (.run A75 []) s := by
  unfold i_IsRanking_1 at h
  have h0 := hs
  refine .seq ?_
  refine run_reg ?_
  refine e_end ?_
  refine g_v0 (.bool false) rfl rfl ?_
  refine g_end ?_
  refine e_end ?_
  refine renew [(0, (.int .i64 rank_1)), (2, (.bool false))] ⟨h0, rfl⟩ ?_
  rintro s ⟨h0, h2⟩
  refine .nsq ?_
  refine .seq ?_
  refine run_reg ?_
  refine e_end ?_
  refine g_v1 (t := 0) (u := (.int .i64 rank_1)) (.int .i64 rank_1) h0 rfl rfl ?_
  refine g_v1 (t := 3) (u := (.int .i64 rank_1)) (.bool (decide (rank_1 < 1))) rfl rfl rfl ?_
  refine g_v1 (t := 4) (u := (.bool (decide (rank_1 < 1)))) (.bool (decide (rank_1 < 1))) rfl rfl rfl ?_
  refine g_end ?_
  refine e_end ?_
  refine renew [(2, (.bool (decide (rank_1 < 1))))] rfl ?_
  rintro s h2
  refine .nsq ?_
  refine .ret ?_
  have hr := Option.some.inj h
  subst hr
  exact rrA (res_tmp h2) rfl
end
def e75 (F : Nat) : Ent := ⟨75, da (fun (x : (Int × Unit)) => i_IsRanking_1 F x.1) (fun (r : Bool) => (Enc.enc (r : Bool))), 0, false, selF []⟩
theorem p75 {F : Nat} {x0 : Int} {r : Bool} (h : i_IsRanking_1 F x0 = some r) : (e75 F).den [Enc.enc x0] = some (Enc.enc (r : Bool)) := da_put (f := fun (x : (Int × Unit)) => i_IsRanking_1 F x.1) (t := fun (r : Bool) => (Enc.enc (r : Bool))) (x0, ()) h
theorem o75 {D : Den} {σ : Sig} {F : Nat} (hF : Fits2 Try.prog D σ) (H : H75 D σ F) : (e75 F).Ok Try.prog := by
  refine ok_of (f := 75) (show unk 75 = 75 from rfl) (fun args r h => ?_) ⟨Try.f75, Try.func75, rfl, rfl⟩
  obtain ⟨⟨x0, _⟩, y, rfl, hy, rfl⟩ := da_open h
  exact contract_run hF (by kernel_rfl) Try.func75 rfl c75 (show 1 ≤ Try.f75.ntmps by decide) (t75 H x0 _ rfl hy)
/- slices.IndexFunc[[]int,int] -/
def A118s1_5 : AC := (AC.cond (O.t 16) (AC.seq (AC.reg [] [(I.mk (some 17) none false (X.v (A.mov (O.t 5)))), (I.mk (some 4) none false (X.v (A.mov (O.t 17))))] []) AC.ret) AC.skip)
def A118s1_4 : AC := (AC.seq (AC.reg [] [(I.mk (some 11) none false (X.v (A.mov (O.t 1)))), (I.mk (some 12) none false (X.v (A.mov (O.t 0)))), (I.mk (some 13) none false (X.v (A.mov (O.t 5)))), (I.mk (some 14) none false (X.v (A.idx (O.t 12) (O.t 13) 1))), (I.mk (some 15) none false (X.v (A.load Sh.s (O.t 14)))), (I.mk (some 16) none false (X.call (O.t 11) [(O.t 15)]))] []) A118s1_5)
def A118s1_6 : AC := (AC.reg [] [(I.mk (some 18) none false (X.v (A.bin BinOp.add (O.t 8) (O.k (V.int IntKind.i64 (Int.ofNat 1)))))), (I.mk (some 8) none false (X.v (A.mov (O.t 18))))] [])
def A118s1_3 : AC := (AC.seq (AC.block 1 (AC.seq (AC.reg [] [(I.mk (some 10) none false (X.v (A.mov (O.t 8)))), (I.mk (some 5) none false (X.v (A.mov (O.t 10))))] []) A118s1_4)) A118s1_6)
def A118s1_2 : AC := (AC.seq (AC.cond (O.t 9) AC.skip (AC.exit 0)) A118s1_3)
def A118s1_1 : AC := (AC.seq (AC.reg [] [(I.mk (some 9) none false (X.v (A.bin BinOp.lss (O.t 8) (O.t 7))))] []) A118s1_2)
def A118s1_7 : AC := (AC.seq (AC.reg [] [(I.mk (some 4) none false (X.v (A.mov (O.k (V.int IntKind.i64 (Int.negSucc 0))))))] []) AC.ret)
def A118s1_9 : AC := (AC.block 0 (AC.loop A118s1_1))
def A118s1_8 : AC := (AC.seq (AC.seq (AC.reg [] [(I.mk (some 6) none false (X.v (A.mov (O.t 0)))), (I.mk (some 7) none false (X.v (A.len (O.t 6)))), (I.mk (some 8) none false (X.v (A.mov (O.k (V.int IntKind.i64 (Int.ofNat 0))))))] []) A118s1_9) A118s1_7)
def A118s1 : AC := (AC.seq (AC.reg [] [(I.mk (some 4) none false (X.v (A.mov (O.k (V.int IntKind.i64 (Int.ofNat 0))))))] []) A118s1_8)
def an118s1 : List An := []
theorem c118s1 : cC Try.prog Try.f118.ntmps an118s1 (Try.f118.body.getD .skip) = some A118s1 := by kernel_rfl
structure H118s1 (D : Den) (σ : Sig) (F : Nat) : Prop where
  c75 : ∀ (x0 : Int) r, i_IsRanking_1 F x0 = some r → D 75 [Enc.enc x0] = some (Enc.enc (r : Bool))
  g75 : σ 75 = some (0, false)
abbrev R118s1 (r : Int) : (Nat → V) → Prop := RR Try.prog [.tmp 4] 0 false (Enc.enc (r : Int))
section
variable {D : Den} {σ : Sig} {F : Nat} {r : Int}
def slices_IndexFunc_of_i_IsRanking_1_l1 (F : Nat) (s_1 : (List Int))  : Nat → Int → Option Int
  | 0, _ => none
  | k + 1, t8_5 =>
    bif decide (t8_5 < (s_1.length : Int)) then
      (idx s_1 t8_5).bind fun e_8 =>
      (i_IsRanking_1 F e_8).bind fun r_9 =>
      bif r_9 then
        some t8_5
      else
        (slices_IndexFunc_of_i_IsRanking_1_l1 F s_1 k) (w64 (t8_5 + 1))
    else
      some (-1)
theorem t_f118s1_l1 (H : H118s1 D σ F) (s_1 : (List Int))  : ∀ (k : Nat) (t8_5 : Int) (s : Nat → V), Facts [(0, (Enc.enc (s_1 : List Int))), (1, (.fn 75 [] [])), (4, (.int .i64 0)), (7, (.int .i64 (s_1.length : Int))), (8, (.int .i64 t8_5))] s → slices_IndexFunc_of_i_IsRanking_1_l1 F s_1 k t8_5 = some r → Run D σ (R118s1 r) (.run A118s1_1 [.lp A118s1_1, .bk 0, .sq A118s1_7]) s := by
  intro k
  induction k with
  | zero => intro t8_5 s _ h; exact nomatch (h : (none : Option _) = some r)
  | succ k ih =>
    intro t8_5 s hs h
    rw [slices_IndexFunc_of_i_IsRanking_1_l1] at h
    obtain ⟨h0, h1, h4, h7, h8⟩ := hs
    refine .seq ?_
    refine run_reg ?_
    refine e_end ?_
    refine g_v2 (t1 := 8) (t2 := 7) (u1 := (.int .i64 t8_5)) (u2 := (.int .i64 (s_1.length : Int))) (.bool (decide (t8_5 < (s_1.length : Int)))) h8 h7 rfl rfl ?_
    refine g_end ?_
    refine e_end ?_
    refine renew [(0, (Enc.enc (s_1 : List Int))), (1, (.fn 75 [] [])), (4, (.int .i64 0)), (7, (.int .i64 (s_1.length : Int))), (8, (.int .i64 t8_5)), (9, (.bool (decide (t8_5 < (s_1.length : Int)))))] ⟨h0, h1, h4, h7, h8, rfl⟩ ?_
    rintro s ⟨h0, h1, h4, h7, h8, h9⟩
    refine .nsq ?_
    refine .seq ?_
    refine run_cond (t := decide (t8_5 < (s_1.length : Int))) h9 h (fun h => ?_) (fun h => ?_)
    · refine .skip ?_
      refine .nsq ?_
      refine .seq ?_
      refine .block ?_
      refine .seq ?_
      refine run_reg ?_
      refine e_end ?_
      refine g_v1 (t := 8) (u := (.int .i64 t8_5)) (.int .i64 t8_5) h8 rfl rfl ?_
      refine g_v1 (t := 10) (u := (.int .i64 t8_5)) (.int .i64 t8_5) rfl rfl rfl ?_
      refine g_end ?_
      refine e_end ?_
      refine renew [(0, (Enc.enc (s_1 : List Int))), (1, (.fn 75 [] [])), (4, (.int .i64 0)), (5, (.int .i64 t8_5)), (7, (.int .i64 (s_1.length : Int))), (8, (.int .i64 t8_5))] ⟨h0, h1, h4, rfl, h7, h8⟩ ?_
      rintro s ⟨h0, h1, h4, h5, h7, h8⟩
      refine .nsq ?_
      refine .seq ?_
      refine run_reg ?_
      refine e_end ?_
      refine g_v1 (t := 1) (u := (.fn 75 [] [])) (.fn 75 [] []) h1 rfl rfl ?_
      refine g_v1 (t := 0) (u := (Enc.enc (s_1 : List Int))) (Enc.enc (s_1 : List Int)) h0 rfl rfl ?_
      refine g_v1 (t := 5) (u := (.int .i64 t8_5)) (.int .i64 t8_5) h5 rfl rfl ?_
      obtain ⟨e_8, E_e_8, h⟩ := bind_some h
      refine g_v (.ref .sh 0 [] (.int .i64 e_8)) (ev_idx (t := .sh) (lo := 0) (xs := s_1) rfl rfl E_e_8 rfl rfl) ?_
      refine g_v1 (t := 14) (u := (.ref .sh 0 [] (.int .i64 e_8))) (.int .i64 e_8) rfl rfl rfl ?_
      obtain ⟨r_9, E_r_9, h⟩ := bind_some h
      refine g_callF (m := 0) (al := false) (r := (Enc.enc (r_9 : Bool))) (fs := []) (env := []) (us := []) (ws := []) rfl erases_nil erases_nil rfl [Enc.enc (e_8 : Int)] (ta_cons (v := (.int .i64 e_8)) rfl rfl rfl ta_nil) (H.c75 _ _ E_r_9) H.g75 rfl rfl rfl rfl ?_
      refine g_end ?_
      refine e_end ?_
      refine renew [(0, (Enc.enc (s_1 : List Int))), (1, (.fn 75 [] [])), (4, (.int .i64 0)), (5, (.int .i64 t8_5)), (7, (.int .i64 (s_1.length : Int))), (8, (.int .i64 t8_5)), (16, (.bool r_9))] ⟨h0, h1, h4, h5, h7, h8, rfl⟩ ?_
      rintro s ⟨h0, h1, h4, h5, h7, h8, h16⟩
      refine .nsq ?_
      refine run_cond (t := r_9) h16 h (fun h => ?_) (fun h => ?_)
      · refine .seq ?_
        refine run_reg ?_
        refine e_end ?_
        refine g_v1 (t := 5) (u := (.int .i64 t8_5)) (.int .i64 t8_5) h5 rfl rfl ?_
        refine g_v1 (t := 17) (u := (.int .i64 t8_5)) (.int .i64 t8_5) rfl rfl rfl ?_
        refine g_end ?_
        refine e_end ?_
        refine renew [(0, (Enc.enc (s_1 : List Int))), (1, (.fn 75 [] [])), (4, (.int .i64 t8_5)), (7, (.int .i64 (s_1.length : Int))), (8, (.int .i64 t8_5))] ⟨h0, h1, rfl, h7, h8⟩ ?_
        rintro s ⟨h0, h1, h4, h7, h8⟩
        refine .nsq ?_
        refine .ret ?_
        have hr := Option.some.inj h
        subst hr
        exact rrA (res_tmp h4) rfl
      · refine .skip ?_
        refine .nbk ?_
        refine .nsq ?_
        refine run_reg ?_
        refine e_end ?_
        refine g_v1 (t := 8) (u := (.int .i64 t8_5)) (.int .i64 (w64 (t8_5 + 1))) h8 rfl rfl ?_
        refine g_v1 (t := 18) (u := (.int .i64 (w64 (t8_5 + 1)))) (.int .i64 (w64 (t8_5 + 1))) rfl rfl rfl ?_
        refine g_end ?_
        refine e_end ?_
        refine renew [(0, (Enc.enc (s_1 : List Int))), (1, (.fn 75 [] [])), (4, (.int .i64 0)), (7, (.int .i64 (s_1.length : Int))), (8, (.int .i64 (w64 (t8_5 + 1))))] ⟨h0, h1, h4, h7, rfl⟩ ?_
        rintro s ⟨h0, h1, h4, h7, h8⟩
        refine .nlp ?_
        exact ih (w64 (t8_5 + 1)) _ ⟨h0, h1, h4, h7, h8⟩ h
    · refine .exit ?_
      refine .esq ?_
      refine .elp ?_
      refine .ebk ?_
      refine .nsq ?_
      refine .seq ?_
      refine run_reg ?_
      refine e_end ?_
      refine g_v0 (.int .i64 (-1)) rfl rfl ?_
      refine g_end ?_
      refine e_end ?_
      refine renew [(4, (.int .i64 (-1)))] rfl ?_
      rintro s h4
      refine .nsq ?_
      refine .ret ?_
      have hr := Option.some.inj h
      subst hr
      exact rrA (res_tmp h4) rfl
def slices_IndexFunc_of_i_IsRanking_1 (F : Nat) (s_1 : (List Int)) (f_2 : (Cl 75 Unit Unit)) : Option Int :=
  slices_IndexFunc_of_i_IsRanking_1_l1 F s_1 F 0
theorem t118s1 (H : H118s1 D σ F) (s_1 : (List Int)) (f_2 : (Cl 75 Unit Unit)) (s : Nat → V) (hs : Facts [(0, (Enc.enc (s_1 : List Int))), (1, (.fn 75 [] []))] s) (h : slices_IndexFunc_of_i_IsRanking_1 F s_1 f_2 = some r) : Run D σ (R118s1 r) (.run A118s1 []) s := by
  unfold slices_IndexFunc_of_i_IsRanking_1 at h
  obtain ⟨h0, h1⟩ := hs
  refine .seq ?_
  refine run_reg ?_
  refine e_end ?_
  refine g_v0 (.int .i64 0) rfl rfl ?_
  refine g_end ?_
  refine e_end ?_
  refine renew [(0, (Enc.enc (s_1 : List Int))), (1, (.fn 75 [] [])), (4, (.int .i64 0))] ⟨h0, h1, rfl⟩ ?_
  rintro s ⟨h0, h1, h4⟩
  refine .nsq ?_
  refine .seq ?_
  refine .seq ?_
  refine run_reg ?_
  refine e_end ?_
  refine g_v1 (t := 0) (u := (Enc.enc (s_1 : List Int))) (Enc.enc (s_1 : List Int)) h0 rfl rfl ?_
  refine g_v (.int .i64 (s_1.length : Int)) (ev_len (xs := s_1) rfl) ?_
  refine g_v0 (.int .i64 0) rfl rfl ?_
  refine g_end ?_
  refine e_end ?_
  refine renew [(0, (Enc.enc (s_1 : List Int))), (1, (.fn 75 [] [])), (4, (.int .i64 0)), (7, (.int .i64 (s_1.length : Int))), (8, (.int .i64 0))] ⟨h0, h1, h4, rfl, rfl⟩ ?_
  rintro s ⟨h0, h1, h4, h7, h8⟩
  refine .nsq ?_
  refine .block ?_
  refine .loop ?_
  exact t_f118s1_l1 H s_1 F 0 _ ⟨h0, h1, h4, h7, h8⟩ h
end
def e118s1 (F : Nat) : Ent := ⟨118, da (fun (x : ((List Int) × (Cl 75 Unit Unit) × Unit)) => slices_IndexFunc_of_i_IsRanking_1 F x.1 x.2.1) (fun (r : Int) => (Enc.enc (r : Int))), 0, false, selF [(1, 75)]⟩
theorem p118s1 {F : Nat} {x0 : (List Int)} {x1 : (Cl 75 Unit Unit)} {r : Int} (h : slices_IndexFunc_of_i_IsRanking_1 F x0 x1 = some r) : (e118s1 F).den [Enc.enc x0, Arg.arg x1] = some (Enc.enc (r : Int)) := da_put (f := fun (x : ((List Int) × (Cl 75 Unit Unit) × Unit)) => slices_IndexFunc_of_i_IsRanking_1 F x.1 x.2.1) (t := fun (r : Int) => (Enc.enc (r : Int))) (x0, x1, ()) h
theorem o118s1 {D : Den} {σ : Sig} {F : Nat} (hF : Fits2 Try.prog D σ) (H : H118s1 D σ F) : (e118s1 F).Ok Try.prog := by
  refine ok_of (f := 118) (show unk 118 = 118 from rfl) (fun args r h => ?_) ⟨Try.f118, Try.func118, rfl, rfl⟩
  obtain ⟨⟨x0, x1, _⟩, y, rfl, hy, rfl⟩ := da_open h
  exact contract_run hF (by kernel_rfl) Try.func118 rfl c118s1 (show 2 ≤ Try.f118.ntmps by decide) (t118s1 H x0 x1 _ ⟨rfl, rfl⟩ hy)
/- slices.ContainsFunc[[]int,int] -/
def A74s1_1 : AC := (AC.seq (AC.reg [] [(I.mk (some 5) none false (X.v (A.mov (O.t 0)))), (I.mk (some 6) none false (X.v (A.mov (O.t 1)))), (I.mk (some 7) none false (X.call (O.k (V.fn 118 [] [])) [(O.t 5), (O.t 6)])), (I.mk (some 8) none false (X.v (A.bin BinOp.geq (O.t 7) (O.k (V.int IntKind.i64 (Int.ofNat 0)))))), (I.mk (some 4) none false (X.v (A.mov (O.t 8))))] []) AC.ret)
def A74s1 : AC := (AC.seq (AC.reg [] [(I.mk (some 4) none false (X.v (A.mov (O.k (V.bool false)))))] []) A74s1_1)
def an74s1 : List An := []
theorem c74s1 : cC Try.prog Try.f74.ntmps an74s1 (Try.f74.body.getD .skip) = some A74s1 := by kernel_rfl
structure H74s1 (D : Den) (σ : Sig) (F : Nat) : Prop where
  c118s1 : ∀ (x0 : (List Int)) (x1 : (Cl 75 Unit Unit)) r, slices_IndexFunc_of_i_IsRanking_1 F x0 x1 = some r → D 118 [Enc.enc x0, Arg.arg x1] = some (Enc.enc (r : Int))
  g118s1 : σ 118 = some (0, false)
abbrev R74s1 (r : Bool) : (Nat → V) → Prop := RR Try.prog [.tmp 4] 0 false (Enc.enc (r : Bool))
section
variable {D : Den} {σ : Sig} {F : Nat} {r : Bool}
def slices_ContainsFunc_of_i_IsRanking_1 (F : Nat) (s_1 : (List Int)) (f_2 : (Cl 75 Unit Unit)) : Option Bool :=
  (slices_IndexFunc_of_i_IsRanking_1 F s_1 (Cl.mk () () : (Cl 75 Unit Unit))).bind fun r_3 =>
  some (decide (r_3 ≥ 0))
theorem t74s1 (H : H74s1 D σ F) (s_1 : (List Int)) (f_2 : (Cl 75 Unit Unit)) (s : Nat → V) (hs : Facts [(0, (Enc.enc (s_1 : List Int))), (1, (.fn 75 [] []))] s) (h : slices_ContainsFunc_of_i_IsRanking_1 F s_1 f_2 = some r) : Run D σ (R74s1 r) (.run A74s1 []) s := by
  unfold slices_ContainsFunc_of_i_IsRanking_1 at h
  obtain ⟨h0, h1⟩ := hs
  refine .seq ?_
  refine run_reg ?_
  refine e_end ?_
  refine g_v0 (.bool false) rfl rfl ?_
  refine g_end ?_
  refine e_end ?_
  refine renew [(0, (Enc.enc (s_1 : List Int))), (1, (.fn 75 [] [])), (4, (.bool false))] ⟨h0, h1, rfl⟩ ?_
  rintro s ⟨h0, h1, h4⟩
  refine .nsq ?_
  refine .seq ?_
  refine run_reg ?_
  refine e_end ?_
  refine g_v1 (t := 0) (u := (Enc.enc (s_1 : List Int))) (Enc.enc (s_1 : List Int)) h0 rfl rfl ?_
  refine g_v1 (t := 1) (u := (.fn 75 [] [])) (.fn 75 [] []) h1 rfl rfl ?_
  obtain ⟨r_3, E_r_3, h⟩ := bind_some h
  refine g_call (m := 0) (al := false) (r := (Enc.enc (r_3 : Int))) [Enc.enc (s_1 : (List Int)), Arg.arg ((Cl.mk () () : (Cl 75 Unit Unit)) : (Cl 75 Unit Unit))] (ta_cons (v := (Enc.enc (s_1 : List Int))) rfl rfl (Enc.erase_enc (s_1 : (List Int))) (ta_cons (v := (.fn 75 [] [])) rfl rfl (erase_fn erases_nil erases_nil) ta_nil)) (H.c118s1 _ _ _ E_r_3) H.g118s1 rfl rfl rfl rfl ?_
  refine g_v1 (t := 7) (u := (.int .i64 r_3)) (.bool (decide (r_3 ≥ 0))) rfl rfl rfl ?_
  refine g_v1 (t := 8) (u := (.bool (decide (r_3 ≥ 0)))) (.bool (decide (r_3 ≥ 0))) rfl rfl rfl ?_
  refine g_end ?_
  refine e_end ?_
  refine renew [(4, (.bool (decide (r_3 ≥ 0))))] rfl ?_
  rintro s h4
  refine .nsq ?_
  refine .ret ?_
  have hr := Option.some.inj h
  subst hr
  exact rrA (res_tmp h4) rfl
end
def e74s1 (F : Nat) : Ent := ⟨74, da (fun (x : ((List Int) × (Cl 75 Unit Unit) × Unit)) => slices_ContainsFunc_of_i_IsRanking_1 F x.1 x.2.1) (fun (r : Bool) => (Enc.enc (r : Bool))), 0, false, selF [(1, 75)]⟩
theorem p74s1 {F : Nat} {x0 : (List Int)} {x1 : (Cl 75 Unit Unit)} {r : Bool} (h : slices_ContainsFunc_of_i_IsRanking_1 F x0 x1 = some r) : (e74s1 F).den [Enc.enc x0, Arg.arg x1] = some (Enc.enc (r : Bool)) := da_put (f := fun (x : ((List Int) × (Cl 75 Unit Unit) × Unit)) => slices_ContainsFunc_of_i_IsRanking_1 F x.1 x.2.1) (t := fun (r : Bool) => (Enc.enc (r : Bool))) (x0, x1, ()) h
theorem o74s1 {D : Den} {σ : Sig} {F : Nat} (hF : Fits2 Try.prog D σ) (H : H74s1 D σ F) : (e74s1 F).Ok Try.prog := by
  refine ok_of (f := 74) (show unk 74 = 74 from rfl) (fun args r h => ?_) ⟨Try.f74, Try.func74, rfl, rfl⟩
  obtain ⟨⟨x0, x1, _⟩, y, rfl, hy, rfl⟩ := da_open h
  exact contract_run hF (by kernel_rfl) Try.func74 rfl c74s1 (show 2 ≤ Try.f74.ntmps by decide) (t74s1 H x0 x1 _ ⟨rfl, rfl⟩ hy)
/- loop.example/g01109/impl.netOf -/
def A55_5 : AC := (AC.reg [] [(I.mk (some 28) none false (X.v (A.fld (O.t 3) 0 0))), (I.mk (some 29) none false (X.v (A.load Sh.p (O.t 28)))), (I.mk (some 30) none false (X.v (A.idxA (O.t 5) (O.k (V.int IntKind.i64 (Int.ofNat 1))) 2 1))), (I.mk (some 31) none false (X.v (A.load Sh.s (O.t 30)))), (I.mk (some 32) none false (X.v (A.idx (O.t 29) (O.t 31) 1))), (I.mk (some 33) none false (X.v (A.load Sh.s (O.t 32)))), (I.mk (some 34) none false (X.v (A.idxA (O.t 5) (O.k (V.int IntKind.i64 (Int.ofNat 0))) 2 1))), (I.mk (some 35) none false (X.v (A.load Sh.s (O.t 34)))), (I.mk (some 36) none false (X.v (A.bin BinOp.shl (O.k (V.int IntKind.i64 (Int.ofNat 1))) (O.t 35)))), (I.mk (some 37) none false (X.v (A.bin BinOp.or (O.t 33) (O.t 36)))), (I.mk (some 38) none false (X.v (A.idx (O.t 29) (O.t 31) 1))), (I.mk none none false (X.store Sh.s (O.t 38) (O.t 37)))] [])
def A55_4 : AC := (AC.seq (AC.reg [] [(I.mk (some 17) none false (X.v (A.fld (O.t 3) 0 0))), (I.mk (some 18) none false (X.v (A.load Sh.p (O.t 17)))), (I.mk (some 19) none false (X.v (A.idxA (O.t 5) (O.k (V.int IntKind.i64 (Int.ofNat 0))) 2 1))), (I.mk (some 20) none false (X.v (A.load Sh.s (O.t 19)))), (I.mk (some 21) none false (X.v (A.idx (O.t 18) (O.t 20) 1))), (I.mk (some 22) none false (X.v (A.load Sh.s (O.t 21)))), (I.mk (some 23) none false (X.v (A.idxA (O.t 5) (O.k (V.int IntKind.i64 (Int.ofNat 1))) 2 1))), (I.mk (some 24) none false (X.v (A.load Sh.s (O.t 23)))), (I.mk (some 25) none false (X.v (A.bin BinOp.shl (O.k (V.int IntKind.i64 (Int.ofNat 1))) (O.t 24)))), (I.mk (some 26) none false (X.v (A.bin BinOp.or (O.t 22) (O.t 25)))), (I.mk (some 27) none false (X.v (A.idx (O.t 18) (O.t 20) 1))), (I.mk none none false (X.store Sh.s (O.t 27) (O.t 26)))] []) A55_5)
def A55_6 : AC := (AC.reg [] [(I.mk (some 39) none false (X.v (A.bin BinOp.add (O.t 13) (O.k (V.int IntKind.i64 (Int.ofNat 1)))))), (I.mk (some 13) none false (X.v (A.mov (O.t 39))))] [])
def A55_3 : AC := (AC.seq (AC.block 1 (AC.seq (AC.reg [.clr [5]] [(I.mk (some 15) none false (X.v (A.idx (O.t 11) (O.t 13) 2))), (I.mk (some 16) none false (X.v (A.load (Sh.ag [Sh.s, Sh.s]) (O.t 15)))), (I.mk (some 5) none false (X.alloc (V.agg [(V.int IntKind.i64 (Int.ofNat 0)), (V.int IntKind.i64 (Int.ofNat 0))]))), (I.mk none none false (X.store (Sh.ag [Sh.s, Sh.s]) (O.t 5) (O.t 16)))] []) A55_4)) A55_6)
def A55_2 : AC := (AC.seq (AC.cond (O.t 14) AC.skip (AC.exit 0)) A55_3)
def A55_1 : AC := (AC.seq (AC.reg [] [(I.mk (some 14) none false (X.v (A.bin BinOp.lss (O.t 13) (O.t 12))))] []) A55_2)
def A55_7 : AC := (AC.seq (AC.reg [] [(I.mk (some 40) none false (X.v (A.load (Sh.ag [Sh.p]) (O.t 3)))), (I.mk none none false (X.store (Sh.ag [Sh.p]) (O.t 2) (O.t 40)))] []) AC.ret)
def A55_10 : AC := (AC.block 0 (AC.loop A55_1))
def A55_9 : AC := (AC.seq (AC.seq (AC.reg [] [(I.mk (some 10) none false (X.v (A.fld (O.t 1) 1 1))), (I.mk (some 11) none false (X.v (A.load Sh.p (O.t 10)))), (I.mk (some 12) none false (X.v (A.len (O.t 11)))), (I.mk (some 13) none false (X.v (A.mov (O.k (V.int IntKind.i64 (Int.ofNat 0))))))] []) A55_10) A55_7)
def A55_8 : AC := (AC.seq (AC.reg [.clr [8, 3]] [(I.mk (some 6) none false (X.v (A.fld (O.t 1) 0 0))), (I.mk (some 7) none false (X.v (A.load Sh.s (O.t 6)))), (I.mk (some 8) none false (X.mk (O.t 7) (V.int IntKind.i64 (Int.ofNat 0)))), (I.mk (some 9) none false (X.v (A.bld (V.agg [(V.sl Tok.nl Sh.s 0 [])]) [(0, 0, (O.t 8))]))), (I.mk (some 3) none false (X.alloc (V.agg [(V.sl Tok.nl Sh.s 0 [])]))), (I.mk none none false (X.store (Sh.ag [Sh.p]) (O.t 3) (O.t 9)))] []) A55_9)
def A55 : AC := (AC.seq (AC.reg [.clr [1, 2]] [(I.mk (some 1) none false (X.box (O.t 0))), (I.mk (some 2) none false (X.alloc (V.agg [(V.sl Tok.nl Sh.s 0 [])])))] []) A55_8)
def an55 : List An := [{ id := 0, pre := [.clr [1, 2]], ep := [], lin := [], sp := [] }, { id := 1, pre := [.clr [8, 3]], ep := [], lin := [], sp := [] }, { id := 4, pre := [.clr [5]], ep := [], lin := [], sp := [] }]
theorem c55 : cC Try.prog Try.f55.ntmps an55 (Try.f55.body.getD .skip) = some A55 := by kernel_rfl
structure H55 (D : Den) (σ : Sig) (F : Nat) : Prop where
  mk ::
abbrev R55 (r : (S1 (List Int))) : (Nat → V) → Prop := RR Try.prog [.cell 2 56] 0 false (Enc.enc (r : (S1 (List Int))))
section
variable {D : Den} {σ : Sig} {F : Nat} {r : (S1 (List Int))}
def i_netOf_l1 (F : Nat) (g_1 : (Int × (List (Int × Int))))  : Nat → (List Int) → Int → Option (S1 (List Int))
  | 0, _, _ => none
  | k + 1, w_10, t13_11 =>
    bif decide (t13_11 < (g_1.2.length : Int)) then
      (idx g_1.2 t13_11).bind fun e_19 =>
      (idx w_10 e_19.1).bind fun e_20 =>
      (shlI .i64 1 e_19.2).bind fun q_21 =>
      (idx w_10 e_19.1).bind fun e_22 =>
      (idx (w_10.set e_19.1.toNat (ior .i64 e_20 q_21)) e_19.2).bind fun e_23 =>
      (shlI .i64 1 e_19.1).bind fun q_24 =>
      (idx (w_10.set e_19.1.toNat (ior .i64 e_20 q_21)) e_19.2).bind fun e_25 =>
      (i_netOf_l1 F g_1 k) ((w_10.set e_19.1.toNat (ior .i64 e_20 q_21)).set e_19.2.toNat (ior .i64 e_23 q_24)) (w64 (t13_11 + 1))
    else
      some (S1.mk w_10)
theorem t_f55_l1 (H : H55 D σ F) (g_1 : (Int × (List (Int × Int))))  : ∀ (k : Nat) (w_10 : (List Int)) (t13_11 : Int) (s : Nat → V), Facts [(2, (.ref (.bx 2) 0 [] (.agg [(.sl .nl (Enc.shp Int) 0 [])]))), (3, (.ref (.bx 3) 0 [] (.agg [(encO (.at 8 []) (.of (w_10 : List Int)))]))), (11, (Enc.enc (g_1.2 : List (Int × Int)))), (12, (.int .i64 (g_1.2.length : Int))), (13, (.int .i64 t13_11))] s → i_netOf_l1 F g_1 k w_10 t13_11 = some r → Run D σ (R55 r) (.run A55_1 [.lp A55_1, .bk 0, .sq A55_7]) s := by
  intro k
  induction k with
  | zero => intro w_10 t13_11 s _ h; exact nomatch (h : (none : Option _) = some r)
  | succ k ih =>
    intro w_10 t13_11 s hs h
    rw [i_netOf_l1] at h
    obtain ⟨h2, h3, h11, h12, h13⟩ := hs
    refine .seq ?_
    refine run_reg ?_
    refine e_end ?_
    refine g_v2 (t1 := 13) (t2 := 12) (u1 := (.int .i64 t13_11)) (u2 := (.int .i64 (g_1.2.length : Int))) (.bool (decide (t13_11 < (g_1.2.length : Int)))) h13 h12 rfl rfl ?_
    refine g_end ?_
    refine e_end ?_
    refine renew [(2, (.ref (.bx 2) 0 [] (.agg [(.sl .nl (Enc.shp Int) 0 [])]))), (3, (.ref (.bx 3) 0 [] (.agg [(encO (.at 8 []) (.of (w_10 : List Int)))]))), (11, (Enc.enc (g_1.2 : List (Int × Int)))), (12, (.int .i64 (g_1.2.length : Int))), (13, (.int .i64 t13_11)), (14, (.bool (decide (t13_11 < (g_1.2.length : Int)))))] ⟨h2, h3, h11, h12, h13, rfl⟩ ?_
    rintro s ⟨h2, h3, h11, h12, h13, h14⟩
    refine .nsq ?_
    refine .seq ?_
    refine run_cond (t := decide (t13_11 < (g_1.2.length : Int))) h14 h (fun h => ?_) (fun h => ?_)
    · refine .skip ?_
      refine .nsq ?_
      refine .seq ?_
      refine .block ?_
      refine .seq ?_
      refine run_reg ?_
      refine e_clr ?_
      refine e_end ?_
      obtain ⟨e_19, E_e_19, h⟩ := bind_some h
      refine g_v (.ref .sh 0 [] (.agg [(.int .i64 e_19.1), (.int .i64 e_19.2)])) (ev_idx (t := .sh) (lo := 0) (xs := g_1.2) (keep_clear (s := s) (pk := [5]) h11 rfl (Enc.map_enc _ (g_1.2 : List (Int × Int)))) (keep_clear (s := s) (pk := [5]) h13 rfl rfl) E_e_19 rfl rfl) ?_
      refine g_v1 (t := 15) (u := (.ref .sh 0 [] (.agg [(.int .i64 e_19.1), (.int .i64 e_19.2)]))) (.agg [(.int .i64 e_19.1), (.int .i64 e_19.2)]) rfl rfl rfl ?_
      refine g_alloc (gone_clear (s := s) (pk := [5]) (t := 5) rfl) ?_
      refine g_store (.agg [(.int .i64 e_19.1), (.int .i64 e_19.2)]) (rd_of rfl rfl) (rd_of rfl rfl) (by refine ⟨by decide, by decide, rfl, rfl, rfl, ?_⟩; first | rfl | simp [V.toks, V.tokss, Enc.toks_enc]) ?_
      refine g_end ?_
      refine e_end ?_
      refine renew [(2, (.ref (.bx 2) 0 [] (.agg [(.sl .nl (Enc.shp Int) 0 [])]))), (3, (.ref (.bx 3) 0 [] (.agg [(encO (.at 8 []) (.of (w_10 : List Int)))]))), (5, (.ref (.bx 5) 0 [] (.agg [(.int .i64 e_19.1), (.int .i64 e_19.2)]))), (11, (Enc.enc (g_1.2 : List (Int × Int)))), (12, (.int .i64 (g_1.2.length : Int))), (13, (.int .i64 t13_11))] ⟨(keep_mut (keep_clear (s := s) (pk := [5]) h2 rfl (map_bx rfl (map_agg (maps_cons rfl maps_nil)))) (mut_ref_ne rfl rfl (mut_agg (muts_cons rfl rfl)))), (keep_mut (keep_clear (s := s) (pk := [5]) h3 rfl (map_bx rfl (map_agg (maps_cons (map_encO (r := 8) (p := []) rfl rfl) maps_nil)))) (mut_ref_ne rfl rfl (mut_agg (muts_cons (mut_own_ne rfl rfl) rfl)))), (keep_mut rfl rfl), (keep_mut (keep_clear (s := s) (pk := [5]) h11 rfl (Enc.map_enc _ (g_1.2 : List (Int × Int)))) (Enc.mut_enc _ _ _ _ (g_1.2 : List (Int × Int)))), (keep_mut (keep_clear (s := s) (pk := [5]) h12 rfl rfl) rfl), (keep_mut (keep_clear (s := s) (pk := [5]) h13 rfl rfl) rfl)⟩ ?_
      rintro s ⟨h2, h3, h5, h11, h12, h13⟩
      refine .nsq ?_
      refine .seq ?_
      refine run_reg ?_
      refine e_end ?_
      refine g_v1 (t := 3) (u := (.ref (.bx 3) 0 [] (.agg [(encO (.at 8 []) (.of (w_10 : List Int)))]))) (.ref (.bx 3) 0 [0] (encO (.at 8 []) (.of (w_10 : List Int)))) h3 rfl rfl ?_
      refine g_v1 (t := 17) (u := (.ref (.bx 3) 0 [0] (encO (.at 8 []) (.of (w_10 : List Int))))) (encO (.at 8 []) (.of (w_10 : List Int))) rfl rfl rfl ?_
      refine g_v1 (t := 5) (u := (.ref (.bx 5) 0 [] (.agg [(.int .i64 e_19.1), (.int .i64 e_19.2)]))) (.ref (.bx 5) 0 [0] (.int .i64 e_19.1)) h5 rfl rfl ?_
      refine g_v1 (t := 19) (u := (.ref (.bx 5) 0 [0] (.int .i64 e_19.1))) (.int .i64 e_19.1) rfl rfl rfl ?_
      obtain ⟨e_20, E_e_20, h⟩ := bind_some h
      refine g_v (.ref (.at 8 []) e_19.1.toNat [] (.int .i64 e_20)) (ev_idxO (o := (.of w_10)) rfl rfl E_e_20 rfl) ?_
      refine g_v1 (t := 21) (u := (.ref (.at 8 []) e_19.1.toNat [] (.int .i64 e_20))) (.int .i64 e_20) rfl rfl rfl ?_
      refine g_v1 (t := 5) (u := (.ref (.bx 5) 0 [] (.agg [(.int .i64 e_19.1), (.int .i64 e_19.2)]))) (.ref (.bx 5) 0 [1] (.int .i64 e_19.2)) h5 rfl rfl ?_
      refine g_v1 (t := 23) (u := (.ref (.bx 5) 0 [1] (.int .i64 e_19.2))) (.int .i64 e_19.2) rfl rfl rfl ?_
      obtain ⟨q_21, E_q_21, h⟩ := bind_some h
      refine g_v (.int .i64 q_21) (ev_shl rfl rfl E_q_21) ?_
      refine g_v2 (t1 := 22) (t2 := 25) (u1 := (.int .i64 e_20)) (u2 := (.int .i64 q_21)) (.int .i64 (ior .i64 e_20 q_21)) rfl rfl rfl rfl ?_
      obtain ⟨e_22, E_e_22, h⟩ := bind_some h
      refine g_v (.ref (.at 8 []) e_19.1.toNat [] (.int .i64 e_22)) (ev_idxO (o := (.of w_10)) rfl rfl E_e_22 rfl) ?_
      refine g_store (.int .i64 (ior .i64 e_20 q_21)) (rd_of rfl rfl) (rd_of rfl rfl) (by refine ⟨by decide, by decide, rfl, rfl, rfl, ?_⟩; first | rfl | simp [V.toks, V.tokss, Enc.toks_enc]) ?_
      refine g_end ?_
      refine e_end ?_
      refine renew [(2, (.ref (.bx 2) 0 [] (.agg [(.sl .nl (Enc.shp Int) 0 [])]))), (3, (.ref (.bx 3) 0 [] (.agg [(encO (.at 8 []) (.of (w_10.set e_19.1.toNat (ior .i64 e_20 q_21) : List Int)))]))), (5, (.ref (.bx 5) 0 [] (.agg [(.int .i64 e_19.1), (.int .i64 e_19.2)]))), (11, (Enc.enc (g_1.2 : List (Int × Int)))), (12, (.int .i64 (g_1.2.length : Int))), (13, (.int .i64 t13_11))] ⟨(keep_mut h2 (mut_ref_ne rfl rfl (mut_agg (muts_cons rfl rfl)))), (keep_mut h3 (mut_ref_ne rfl rfl (mut_agg (muts_cons mut_own rfl)))), (keep_mut h5 rfl), (keep_mut h11 (Enc.mut_enc _ _ _ _ (g_1.2 : List (Int × Int)))), (keep_mut h12 rfl), (keep_mut h13 rfl)⟩ ?_
      rintro s ⟨h2, h3, h5, h11, h12, h13⟩
      refine .nsq ?_
      refine run_reg ?_
      refine e_end ?_
      refine g_v1 (t := 3) (u := (.ref (.bx 3) 0 [] (.agg [(encO (.at 8 []) (.of (w_10.set e_19.1.toNat (ior .i64 e_20 q_21) : List Int)))]))) (.ref (.bx 3) 0 [0] (encO (.at 8 []) (.of (w_10.set e_19.1.toNat (ior .i64 e_20 q_21) : List Int)))) h3 rfl rfl ?_
      refine g_v1 (t := 28) (u := (.ref (.bx 3) 0 [0] (encO (.at 8 []) (.of (w_10.set e_19.1.toNat (ior .i64 e_20 q_21) : List Int))))) (encO (.at 8 []) (.of (w_10.set e_19.1.toNat (ior .i64 e_20 q_21) : List Int))) rfl rfl rfl ?_
      refine g_v1 (t := 5) (u := (.ref (.bx 5) 0 [] (.agg [(.int .i64 e_19.1), (.int .i64 e_19.2)]))) (.ref (.bx 5) 0 [1] (.int .i64 e_19.2)) h5 rfl rfl ?_
      refine g_v1 (t := 30) (u := (.ref (.bx 5) 0 [1] (.int .i64 e_19.2))) (.int .i64 e_19.2) rfl rfl rfl ?_
      obtain ⟨e_23, E_e_23, h⟩ := bind_some h
      refine g_v (.ref (.at 8 []) e_19.2.toNat [] (.int .i64 e_23)) (ev_idxO (o := (.of (w_10.set e_19.1.toNat (ior .i64 e_20 q_21)))) rfl rfl E_e_23 rfl) ?_
      refine g_v1 (t := 32) (u := (.ref (.at 8 []) e_19.2.toNat [] (.int .i64 e_23))) (.int .i64 e_23) rfl rfl rfl ?_
      refine g_v1 (t := 5) (u := (.ref (.bx 5) 0 [] (.agg [(.int .i64 e_19.1), (.int .i64 e_19.2)]))) (.ref (.bx 5) 0 [0] (.int .i64 e_19.1)) h5 rfl rfl ?_
      refine g_v1 (t := 34) (u := (.ref (.bx 5) 0 [0] (.int .i64 e_19.1))) (.int .i64 e_19.1) rfl rfl rfl ?_
      obtain ⟨q_24, E_q_24, h⟩ := bind_some h
      refine g_v (.int .i64 q_24) (ev_shl rfl rfl E_q_24) ?_
      refine g_v2 (t1 := 33) (t2 := 36) (u1 := (.int .i64 e_23)) (u2 := (.int .i64 q_24)) (.int .i64 (ior .i64 e_23 q_24)) rfl rfl rfl rfl ?_
      obtain ⟨e_25, E_e_25, h⟩ := bind_some h
      refine g_v (.ref (.at 8 []) e_19.2.toNat [] (.int .i64 e_25)) (ev_idxO (o := (.of (w_10.set e_19.1.toNat (ior .i64 e_20 q_21)))) rfl rfl E_e_25 rfl) ?_
      refine g_store (.int .i64 (ior .i64 e_23 q_24)) (rd_of rfl rfl) (rd_of rfl rfl) (by refine ⟨by decide, by decide, rfl, rfl, rfl, ?_⟩; first | rfl | simp [V.toks, V.tokss, Enc.toks_enc]) ?_
      refine g_end ?_
      refine e_end ?_
      refine renew [(2, (.ref (.bx 2) 0 [] (.agg [(.sl .nl (Enc.shp Int) 0 [])]))), (3, (.ref (.bx 3) 0 [] (.agg [(encO (.at 8 []) (.of ((w_10.set e_19.1.toNat (ior .i64 e_20 q_21)).set e_19.2.toNat (ior .i64 e_23 q_24) : List Int)))]))), (11, (Enc.enc (g_1.2 : List (Int × Int)))), (12, (.int .i64 (g_1.2.length : Int))), (13, (.int .i64 t13_11))] ⟨(keep_mut h2 (mut_ref_ne rfl rfl (mut_agg (muts_cons rfl rfl)))), (keep_mut h3 (mut_ref_ne rfl rfl (mut_agg (muts_cons mut_own rfl)))), (keep_mut h11 (Enc.mut_enc _ _ _ _ (g_1.2 : List (Int × Int)))), (keep_mut h12 rfl), (keep_mut h13 rfl)⟩ ?_
      rintro s ⟨h2, h3, h11, h12, h13⟩
      refine .nbk ?_
      refine .nsq ?_
      refine run_reg ?_
      refine e_end ?_
      refine g_v1 (t := 13) (u := (.int .i64 t13_11)) (.int .i64 (w64 (t13_11 + 1))) h13 rfl rfl ?_
      refine g_v1 (t := 39) (u := (.int .i64 (w64 (t13_11 + 1)))) (.int .i64 (w64 (t13_11 + 1))) rfl rfl rfl ?_
      refine g_end ?_
      refine e_end ?_
      refine renew [(2, (.ref (.bx 2) 0 [] (.agg [(.sl .nl (Enc.shp Int) 0 [])]))), (3, (.ref (.bx 3) 0 [] (.agg [(encO (.at 8 []) (.of ((w_10.set e_19.1.toNat (ior .i64 e_20 q_21)).set e_19.2.toNat (ior .i64 e_23 q_24) : List Int)))]))), (11, (Enc.enc (g_1.2 : List (Int × Int)))), (12, (.int .i64 (g_1.2.length : Int))), (13, (.int .i64 (w64 (t13_11 + 1))))] ⟨h2, h3, h11, h12, rfl⟩ ?_
      rintro s ⟨h2, h3, h11, h12, h13⟩
      refine .nlp ?_
      exact ih ((w_10.set e_19.1.toNat (ior .i64 e_20 q_21)).set e_19.2.toNat (ior .i64 e_23 q_24)) (w64 (t13_11 + 1)) _ ⟨h2, h3, h11, h12, h13⟩ h
    · refine .exit ?_
      refine .esq ?_
      refine .elp ?_
      refine .ebk ?_
      refine .nsq ?_
      refine .seq ?_
      refine run_reg ?_
      refine e_end ?_
      refine g_v1 (t := 3) (u := (.ref (.bx 3) 0 [] (.agg [(encO (.at 8 []) (.of (w_10 : List Int)))]))) (.agg [(encO (.at 8 []) (.of (w_10 : List Int)))]) h3 rfl rfl ?_
      refine g_store (.agg [(encO (.at 8 []) (.of (w_10 : List Int)))]) (rd_of h2 rfl) (rd_of rfl rfl) (by refine ⟨by decide, by decide, rfl, rfl, rfl, ?_⟩; first | rfl | simp [V.toks, V.tokss, Enc.toks_enc]) ?_
      refine g_end ?_
      refine e_end ?_
      refine renew [(2, (.ref (.bx 2) 0 [] (.agg [(encO (.at 8 []) (.of (w_10 : List Int)))])))] (keep_mut h2 rfl) ?_
      rintro s h2
      refine .nsq ?_
      refine .ret ?_
      have hr := Option.some.inj h
      subst hr
      exact rrA (res_cell h2 (by kernel_rfl)) (fin_retF (fin_agg (fins_cons (fin_own (o := .of w_10)) fins_nil)) (mine_agg (mines_cons (mine_own rfl) mines_nil)))
def i_netOf (F : Nat) (g_1 : (Int × (List (Int × Int)))) : Option (S1 (List Int)) :=
  (mkN g_1.1 0).bind fun mk_2 =>
  i_netOf_l1 F g_1 F mk_2 0
theorem t55 (H : H55 D σ F) (g_1 : (Int × (List (Int × Int)))) (s : Nat → V) (hs : Facts [(0, (.agg [(.int .i64 g_1.1), (Enc.enc (g_1.2 : List (Int × Int)))]))] s) (h : i_netOf F g_1 = some r) : Run D σ (R55 r) (.run A55 []) s := by
  unfold i_netOf at h
  have h0 := hs
  refine .seq ?_
  refine run_reg ?_
  refine e_clr ?_
  refine e_end ?_
  refine g_box (.agg [(.int .i64 g_1.1), (Enc.enc (g_1.2 : List (Int × Int)))]) (rd_of (keep_clear (s := s) (pk := [1, 2]) h0 rfl (map_agg (maps_cons rfl (maps_cons (Enc.map_enc _ (g_1.2 : List (Int × Int))) maps_nil)))) rfl) (gone_clear (s := s) (pk := [1, 2]) (t := 1) rfl) rfl ?_
  refine g_alloc (gone_clear (s := s) (pk := [1, 2]) (t := 2) rfl) ?_
  refine g_end ?_
  refine e_end ?_
  refine renew [(1, (.ref (.bx 1) 0 [] (.agg [(.int .i64 g_1.1), (Enc.enc (g_1.2 : List (Int × Int)))]))), (2, (.ref (.bx 2) 0 [] (.agg [(.sl .nl (Enc.shp Int) 0 [])])))] ⟨rfl, rfl⟩ ?_
  rintro s ⟨h1, h2⟩
  refine .nsq ?_
  refine .seq ?_
  refine run_reg ?_
  refine e_clr ?_
  refine e_end ?_
  refine g_v1 (t := 1) (u := (.ref (.bx 1) 0 [] (.agg [(.int .i64 g_1.1), (Enc.enc (g_1.2 : List (Int × Int)))]))) (.ref (.bx 1) 0 [0] (.int .i64 g_1.1)) (keep_clear (s := s) (pk := [8, 3]) h1 rfl (map_bx rfl (map_agg (maps_cons rfl (maps_cons (Enc.map_enc _ (g_1.2 : List (Int × Int))) maps_nil))))) rfl rfl ?_
  refine g_v1 (t := 6) (u := (.ref (.bx 1) 0 [0] (.int .i64 g_1.1))) (.int .i64 g_1.1) rfl rfl rfl ?_
  obtain ⟨mk_2, E_mk_2, h⟩ := bind_some h
  refine g_mk (0 : Int) rfl rfl (gone_clear (s := s) (pk := [8, 3]) (t := 8) rfl) E_mk_2 ?_
  refine g_v1 (t := 8) (u := (encO (.at 8 []) (.of (mk_2 : List Int)))) (.agg [(encO (.at 8 []) (.of (mk_2 : List Int)))]) rfl rfl rfl ?_
  refine g_alloc (gone_clear (s := s) (pk := [8, 3]) (t := 3) rfl) ?_
  refine g_store (.agg [(encO (.at 8 []) (.of (mk_2 : List Int)))]) (rd_of rfl rfl) (rd_of rfl rfl) (by refine ⟨by decide, by decide, rfl, rfl, rfl, ?_⟩; first | rfl | simp [V.toks, V.tokss, Enc.toks_enc]) ?_
  refine g_end ?_
  refine e_end ?_
  refine renew [(1, (.ref (.bx 1) 0 [] (.agg [(.int .i64 g_1.1), (Enc.enc (g_1.2 : List (Int × Int)))]))), (2, (.ref (.bx 2) 0 [] (.agg [(.sl .nl (Enc.shp Int) 0 [])]))), (3, (.ref (.bx 3) 0 [] (.agg [(encO (.at 8 []) (.of (mk_2 : List Int)))])))] ⟨(keep_mut (keep_clear (s := s) (pk := [8, 3]) h1 rfl (map_bx rfl (map_agg (maps_cons rfl (maps_cons (Enc.map_enc _ (g_1.2 : List (Int × Int))) maps_nil))))) (mut_ref_ne rfl rfl (mut_agg (muts_cons rfl (muts_cons (Enc.mut_enc _ _ _ _ (g_1.2 : List (Int × Int))) rfl))))), (keep_mut (keep_clear (s := s) (pk := [8, 3]) h2 rfl (map_bx rfl (map_agg (maps_cons rfl maps_nil)))) (mut_ref_ne rfl rfl (mut_agg (muts_cons rfl rfl)))), (keep_mut rfl rfl)⟩ ?_
  rintro s ⟨h1, h2, h3⟩
  refine .nsq ?_
  refine .seq ?_
  refine .seq ?_
  refine run_reg ?_
  refine e_end ?_
  refine g_v1 (t := 1) (u := (.ref (.bx 1) 0 [] (.agg [(.int .i64 g_1.1), (Enc.enc (g_1.2 : List (Int × Int)))]))) (.ref (.bx 1) 0 [1] (Enc.enc (g_1.2 : List (Int × Int)))) h1 rfl rfl ?_
  refine g_v1 (t := 10) (u := (.ref (.bx 1) 0 [1] (Enc.enc (g_1.2 : List (Int × Int))))) (Enc.enc (g_1.2 : List (Int × Int))) rfl rfl rfl ?_
  refine g_v (.int .i64 (g_1.2.length : Int)) (ev_len (xs := g_1.2) rfl) ?_
  refine g_v0 (.int .i64 0) rfl rfl ?_
  refine g_end ?_
  refine e_end ?_
  refine renew [(2, (.ref (.bx 2) 0 [] (.agg [(.sl .nl (Enc.shp Int) 0 [])]))), (3, (.ref (.bx 3) 0 [] (.agg [(encO (.at 8 []) (.of (mk_2 : List Int)))]))), (11, (Enc.enc (g_1.2 : List (Int × Int)))), (12, (.int .i64 (g_1.2.length : Int))), (13, (.int .i64 0))] ⟨h2, h3, rfl, rfl, rfl⟩ ?_
  rintro s ⟨h2, h3, h11, h12, h13⟩
  refine .nsq ?_
  refine .block ?_
  refine .loop ?_
  exact t_f55_l1 H g_1 F mk_2 0 _ ⟨h2, h3, h11, h12, h13⟩ h
end
def e55 (F : Nat) : Ent := ⟨55, da (fun (x : ((Int × (List (Int × Int))) × Unit)) => i_netOf F x.1) (fun (r : (S1 (List Int))) => (Enc.enc (r : (S1 (List Int))))), 0, false, selF []⟩
theorem p55 {F : Nat} {x0 : (Int × (List (Int × Int)))} {r : (S1 (List Int))} (h : i_netOf F x0 = some r) : (e55 F).den [Enc.enc x0] = some (Enc.enc (r : (S1 (List Int)))) := da_put (f := fun (x : ((Int × (List (Int × Int))) × Unit)) => i_netOf F x.1) (t := fun (r : (S1 (List Int))) => (Enc.enc (r : (S1 (List Int))))) (x0, ()) h
theorem o55 {D : Den} {σ : Sig} {F : Nat} (hF : Fits2 Try.prog D σ) (H : H55 D σ F) : (e55 F).Ok Try.prog := by
  refine ok_of (f := 55) (show unk 55 = 55 from rfl) (fun args r h => ?_) ⟨Try.f55, Try.func55, rfl, rfl⟩
  obtain ⟨⟨x0, _⟩, y, rfl, hy, rfl⟩ := da_open h
  exact contract_run hF (by kernel_rfl) Try.func55 rfl c55 (show 1 ≤ Try.f55.ntmps by decide) (t55 H x0 _ rfl hy)
/- (loop.example/g01109/impl.net).around -/
def A119_5 : AC := (AC.cond (O.t 21) (AC.reg [] [(I.mk (some 22) none false (X.v (A.mov (O.t 5)))), (I.mk (some 23) none false (X.v (A.mov (O.t 7)))), (I.mk (some 24) none false (X.v (A.bin BinOp.or (O.t 22) (O.t 23)))), (I.mk (some 5) none false (X.v (A.mov (O.t 24))))] []) AC.skip)
def A119_4 : AC := (AC.seq (AC.reg [] [(I.mk (some 17) none false (X.v (A.mov (O.t 1)))), (I.mk (some 18) none false (X.v (A.mov (O.t 6)))), (I.mk (some 19) none false (X.v (A.bin BinOp.shr (O.t 17) (O.t 18)))), (I.mk (some 20) none false (X.v (A.bin BinOp.and (O.t 19) (O.k (V.int IntKind.i64 (Int.ofNat 1)))))), (I.mk (some 21) none false (X.v (A.bin BinOp.eql (O.t 20) (O.k (V.int IntKind.i64 (Int.ofNat 1))))))] []) A119_5)
def A119_6 : AC := (AC.reg [] [(I.mk (some 25) none false (X.v (A.bin BinOp.add (O.t 12) (O.k (V.int IntKind.i64 (Int.ofNat 1)))))), (I.mk (some 12) none false (X.v (A.mov (O.t 25))))] [])
def A119_3 : AC := (AC.seq (AC.block 1 (AC.seq (AC.reg [] [(I.mk (some 14) none false (X.v (A.mov (O.t 12)))), (I.mk (some 15) none false (X.v (A.idx (O.t 10) (O.t 12) 1))), (I.mk (some 16) none false (X.v (A.load Sh.s (O.t 15)))), (I.mk (some 6) none false (X.v (A.mov (O.t 14)))), (I.mk (some 7) none false (X.v (A.mov (O.t 16))))] []) A119_4)) A119_6)
def A119_2 : AC := (AC.seq (AC.cond (O.t 13) AC.skip (AC.exit 0)) A119_3)
def A119_1 : AC := (AC.seq (AC.reg [] [(I.mk (some 13) none false (X.v (A.bin BinOp.lss (O.t 12) (O.t 11))))] []) A119_2)
def A119_7 : AC := (AC.seq (AC.reg [] [(I.mk (some 26) none false (X.v (A.mov (O.t 5)))), (I.mk (some 4) none false (X.v (A.mov (O.t 26))))] []) AC.ret)
def A119_10 : AC := (AC.block 0 (AC.loop A119_1))
def A119_9 : AC := (AC.seq (AC.seq (AC.reg [] [(I.mk (some 9) none false (X.v (A.fld (O.t 2) 0 0))), (I.mk (some 10) none false (X.v (A.load Sh.p (O.t 9)))), (I.mk (some 11) none false (X.v (A.len (O.t 10)))), (I.mk (some 12) none false (X.v (A.mov (O.k (V.int IntKind.i64 (Int.ofNat 0))))))] []) A119_10) A119_7)
def A119_8 : AC := (AC.seq (AC.reg [] [(I.mk (some 8) none false (X.v (A.mov (O.t 1)))), (I.mk (some 5) none false (X.v (A.mov (O.t 8))))] []) A119_9)
def A119 : AC := (AC.seq (AC.reg [.clr [2]] [(I.mk (some 2) none false (X.box (O.t 0))), (I.mk (some 4) none false (X.v (A.mov (O.k (V.int IntKind.i64 (Int.ofNat 0))))))] []) A119_8)
def an119 : List An := [{ id := 0, pre := [.clr [2]], ep := [], lin := [], sp := [] }]
theorem c119 : cC Try.prog Try.f119.ntmps an119 (Try.f119.body.getD .skip) = some A119 := by kernel_rfl
structure H119 (D : Den) (σ : Sig) (F : Nat) : Prop where
  mk ::
abbrev R119 (r : Int) : (Nat → V) → Prop := RR Try.prog [.tmp 4] 0 false (Enc.enc (r : Int))
section
variable {D : Den} {σ : Sig} {F : Nat} {r : Int}
def i_net_around_j1 (F : Nat) (set_2 : Int) (w_1 : (S1 (List Int))) (t12_7 : Int) (c1 : Int → Int → Option Int) (out_13 : Int) : Option Int :=
  c1 out_13 (w64 (t12_7 + 1))
theorem t_f119_j1 (H : H119 D σ F) (set_2 : Int) (w_1 : (S1 (List Int))) (t12_7 : Int) (c1 : Int → Int → Option Int) (Hc1 : ∀ (out_6 : Int) (t12_7 : Int) (s : Nat → V), Facts [(1, (.int .i64 set_2)), (4, (.int .i64 0)), (5, (.int .i64 out_6)), (10, (Enc.enc (w_1.a : List Int))), (11, (.int .i64 (w_1.a.length : Int))), (12, (.int .i64 t12_7))] s → c1 out_6 t12_7 = some r → Run D σ (R119 r) (.run A119_1 [.lp A119_1, .bk 0, .sq A119_7]) s) (out_13 : Int) (s : Nat → V) (hs : Facts [(1, (.int .i64 set_2)), (4, (.int .i64 0)), (5, (.int .i64 out_13)), (10, (Enc.enc (w_1.a : List Int))), (11, (.int .i64 (w_1.a.length : Int))), (12, (.int .i64 t12_7))] s) (h : i_net_around_j1 F set_2 w_1 t12_7 c1 out_13 = some r) : Run D σ (R119 r) (.nrm [.bk 1, .sq A119_6, .lp A119_1, .bk 0, .sq A119_7]) s := by
  unfold i_net_around_j1 at h
  obtain ⟨h1, h4, h5, h10, h11, h12⟩ := hs
  refine .nbk ?_
  refine .nsq ?_
  refine run_reg ?_
  refine e_end ?_
  refine g_v1 (t := 12) (u := (.int .i64 t12_7)) (.int .i64 (w64 (t12_7 + 1))) h12 rfl rfl ?_
  refine g_v1 (t := 25) (u := (.int .i64 (w64 (t12_7 + 1)))) (.int .i64 (w64 (t12_7 + 1))) rfl rfl rfl ?_
  refine g_end ?_
  refine e_end ?_
  refine renew [(1, (.int .i64 set_2)), (4, (.int .i64 0)), (5, (.int .i64 out_13)), (10, (Enc.enc (w_1.a : List Int))), (11, (.int .i64 (w_1.a.length : Int))), (12, (.int .i64 (w64 (t12_7 + 1))))] ⟨h1, h4, h5, h10, h11, rfl⟩ ?_
  rintro s ⟨h1, h4, h5, h10, h11, h12⟩
  refine .nlp ?_
  exact Hc1 out_13 (w64 (t12_7 + 1)) _ ⟨h1, h4, h5, h10, h11, h12⟩ h
def i_net_around_l1 (F : Nat) (set_2 : Int) (w_1 : (S1 (List Int)))  : Nat → Int → Int → Option Int
  | 0, _, _ => none
  | k + 1, out_6, t12_7 =>
    bif decide (t12_7 < (w_1.a.length : Int)) then
      (idx w_1.a t12_7).bind fun e_11 =>
      (shrI .i64 set_2 t12_7).bind fun q_12 =>
      bif ((iand .i64 q_12 1) == 1) then
        i_net_around_j1 F set_2 w_1 t12_7 (i_net_around_l1 F set_2 w_1 k) (ior .i64 out_6 e_11)
      else
        i_net_around_j1 F set_2 w_1 t12_7 (i_net_around_l1 F set_2 w_1 k) out_6
    else
      some out_6
theorem t_f119_l1 (H : H119 D σ F) (set_2 : Int) (w_1 : (S1 (List Int)))  : ∀ (k : Nat) (out_6 : Int) (t12_7 : Int) (s : Nat → V), Facts [(1, (.int .i64 set_2)), (4, (.int .i64 0)), (5, (.int .i64 out_6)), (10, (Enc.enc (w_1.a : List Int))), (11, (.int .i64 (w_1.a.length : Int))), (12, (.int .i64 t12_7))] s → i_net_around_l1 F set_2 w_1 k out_6 t12_7 = some r → Run D σ (R119 r) (.run A119_1 [.lp A119_1, .bk 0, .sq A119_7]) s := by
  intro k
  induction k with
  | zero => intro out_6 t12_7 s _ h; exact nomatch (h : (none : Option _) = some r)
  | succ k ih =>
    intro out_6 t12_7 s hs h
    rw [i_net_around_l1] at h
    obtain ⟨h1, h4, h5, h10, h11, h12⟩ := hs
    refine .seq ?_
    refine run_reg ?_
    refine e_end ?_
    refine g_v2 (t1 := 12) (t2 := 11) (u1 := (.int .i64 t12_7)) (u2 := (.int .i64 (w_1.a.length : Int))) (.bool (decide (t12_7 < (w_1.a.length : Int)))) h12 h11 rfl rfl ?_
    refine g_end ?_
    refine e_end ?_
    refine renew [(1, (.int .i64 set_2)), (4, (.int .i64 0)), (5, (.int .i64 out_6)), (10, (Enc.enc (w_1.a : List Int))), (11, (.int .i64 (w_1.a.length : Int))), (12, (.int .i64 t12_7)), (13, (.bool (decide (t12_7 < (w_1.a.length : Int)))))] ⟨h1, h4, h5, h10, h11, h12, rfl⟩ ?_
    rintro s ⟨h1, h4, h5, h10, h11, h12, h13⟩
    refine .nsq ?_
    refine .seq ?_
    refine run_cond (t := decide (t12_7 < (w_1.a.length : Int))) h13 h (fun h => ?_) (fun h => ?_)
    · refine .skip ?_
      refine .nsq ?_
      refine .seq ?_
      refine .block ?_
      refine .seq ?_
      refine run_reg ?_
      refine e_end ?_
      refine g_v1 (t := 12) (u := (.int .i64 t12_7)) (.int .i64 t12_7) h12 rfl rfl ?_
      obtain ⟨e_11, E_e_11, h⟩ := bind_some h
      refine g_v (.ref .sh 0 [] (.int .i64 e_11)) (ev_idx (t := .sh) (lo := 0) (xs := w_1.a) h10 h12 E_e_11 rfl rfl) ?_
      refine g_v1 (t := 15) (u := (.ref .sh 0 [] (.int .i64 e_11))) (.int .i64 e_11) rfl rfl rfl ?_
      refine g_v1 (t := 14) (u := (.int .i64 t12_7)) (.int .i64 t12_7) rfl rfl rfl ?_
      refine g_v1 (t := 16) (u := (.int .i64 e_11)) (.int .i64 e_11) rfl rfl rfl ?_
      refine g_end ?_
      refine e_end ?_
      refine renew [(1, (.int .i64 set_2)), (4, (.int .i64 0)), (5, (.int .i64 out_6)), (6, (.int .i64 t12_7)), (7, (.int .i64 e_11)), (10, (Enc.enc (w_1.a : List Int))), (11, (.int .i64 (w_1.a.length : Int))), (12, (.int .i64 t12_7))] ⟨h1, h4, h5, rfl, rfl, h10, h11, h12⟩ ?_
      rintro s ⟨h1, h4, h5, h6, h7, h10, h11, h12⟩
      refine .nsq ?_
      refine .seq ?_
      refine run_reg ?_
      refine e_end ?_
      refine g_v1 (t := 1) (u := (.int .i64 set_2)) (.int .i64 set_2) h1 rfl rfl ?_
      refine g_v1 (t := 6) (u := (.int .i64 t12_7)) (.int .i64 t12_7) h6 rfl rfl ?_
      obtain ⟨q_12, E_q_12, h⟩ := bind_some h
      refine g_v (.int .i64 q_12) (ev_shr rfl rfl E_q_12) ?_
      refine g_v1 (t := 19) (u := (.int .i64 q_12)) (.int .i64 (iand .i64 q_12 1)) rfl rfl rfl ?_
      refine g_v1 (t := 20) (u := (.int .i64 (iand .i64 q_12 1))) (.bool ((iand .i64 q_12 1) == 1)) rfl rfl rfl ?_
      refine g_end ?_
      refine e_end ?_
      refine renew [(1, (.int .i64 set_2)), (4, (.int .i64 0)), (5, (.int .i64 out_6)), (7, (.int .i64 e_11)), (10, (Enc.enc (w_1.a : List Int))), (11, (.int .i64 (w_1.a.length : Int))), (12, (.int .i64 t12_7)), (21, (.bool ((iand .i64 q_12 1) == 1)))] ⟨h1, h4, h5, h7, h10, h11, h12, rfl⟩ ?_
      rintro s ⟨h1, h4, h5, h7, h10, h11, h12, h21⟩
      refine .nsq ?_
      refine run_cond (t := ((iand .i64 q_12 1) == 1)) h21 h (fun h => ?_) (fun h => ?_)
      · refine run_reg ?_
        refine e_end ?_
        refine g_v1 (t := 5) (u := (.int .i64 out_6)) (.int .i64 out_6) h5 rfl rfl ?_
        refine g_v1 (t := 7) (u := (.int .i64 e_11)) (.int .i64 e_11) h7 rfl rfl ?_
        refine g_v2 (t1 := 22) (t2 := 23) (u1 := (.int .i64 out_6)) (u2 := (.int .i64 e_11)) (.int .i64 (ior .i64 out_6 e_11)) rfl rfl rfl rfl ?_
        refine g_v1 (t := 24) (u := (.int .i64 (ior .i64 out_6 e_11))) (.int .i64 (ior .i64 out_6 e_11)) rfl rfl rfl ?_
        refine g_end ?_
        refine e_end ?_
        refine renew [(1, (.int .i64 set_2)), (4, (.int .i64 0)), (5, (.int .i64 (ior .i64 out_6 e_11))), (10, (Enc.enc (w_1.a : List Int))), (11, (.int .i64 (w_1.a.length : Int))), (12, (.int .i64 t12_7))] ⟨h1, h4, rfl, h10, h11, h12⟩ ?_
        rintro s ⟨h1, h4, h5, h10, h11, h12⟩
        exact t_f119_j1 H set_2 w_1 t12_7 (i_net_around_l1 F set_2 w_1 k) ih (ior .i64 out_6 e_11) _ ⟨h1, h4, h5, h10, h11, h12⟩ h
      · refine .skip ?_
        exact t_f119_j1 H set_2 w_1 t12_7 (i_net_around_l1 F set_2 w_1 k) ih out_6 _ ⟨h1, h4, h5, h10, h11, h12⟩ h
    · refine .exit ?_
      refine .esq ?_
      refine .elp ?_
      refine .ebk ?_
      refine .nsq ?_
      refine .seq ?_
      refine run_reg ?_
      refine e_end ?_
      refine g_v1 (t := 5) (u := (.int .i64 out_6)) (.int .i64 out_6) h5 rfl rfl ?_
      refine g_v1 (t := 26) (u := (.int .i64 out_6)) (.int .i64 out_6) rfl rfl rfl ?_
      refine g_end ?_
      refine e_end ?_
      refine renew [(4, (.int .i64 out_6))] rfl ?_
      rintro s h4
      refine .nsq ?_
      refine .ret ?_
      have hr := Option.some.inj h
      subst hr
      exact rrA (res_tmp h4) rfl
def i_net_around (F : Nat) (w_1 : (S1 (List Int))) (set_2 : Int) : Option Int :=
  i_net_around_l1 F set_2 w_1 F set_2 0
theorem t119 (H : H119 D σ F) (w_1 : (S1 (List Int))) (set_2 : Int) (s : Nat → V) (hs : Facts [(0, (.agg [(Enc.enc (w_1.a : List Int))])), (1, (.int .i64 set_2))] s) (h : i_net_around F w_1 set_2 = some r) : Run D σ (R119 r) (.run A119 []) s := by
  unfold i_net_around at h
  obtain ⟨h0, h1⟩ := hs
  refine .seq ?_
  refine run_reg ?_
  refine e_clr ?_
  refine e_end ?_
  refine g_box (.agg [(Enc.enc (w_1.a : List Int))]) (rd_of (keep_clear (s := s) (pk := [2]) h0 rfl (map_agg (maps_cons (Enc.map_enc _ (w_1.a : List Int)) maps_nil))) rfl) (gone_clear (s := s) (pk := [2]) (t := 2) rfl) rfl ?_
  refine g_v0 (.int .i64 0) rfl rfl ?_
  refine g_end ?_
  refine e_end ?_
  refine renew [(1, (.int .i64 set_2)), (2, (.ref (.bx 2) 0 [] (.agg [(Enc.enc (w_1.a : List Int))]))), (4, (.int .i64 0))] ⟨(keep_clear (s := s) (pk := [2]) h1 rfl rfl), rfl, rfl⟩ ?_
  rintro s ⟨h1, h2, h4⟩
  refine .nsq ?_
  refine .seq ?_
  refine run_reg ?_
  refine e_end ?_
  refine g_v1 (t := 1) (u := (.int .i64 set_2)) (.int .i64 set_2) h1 rfl rfl ?_
  refine g_v1 (t := 8) (u := (.int .i64 set_2)) (.int .i64 set_2) rfl rfl rfl ?_
  refine g_end ?_
  refine e_end ?_
  refine renew [(1, (.int .i64 set_2)), (2, (.ref (.bx 2) 0 [] (.agg [(Enc.enc (w_1.a : List Int))]))), (4, (.int .i64 0)), (5, (.int .i64 set_2))] ⟨h1, h2, h4, rfl⟩ ?_
  rintro s ⟨h1, h2, h4, h5⟩
  refine .nsq ?_
  refine .seq ?_
  refine .seq ?_
  refine run_reg ?_
  refine e_end ?_
  refine g_v1 (t := 2) (u := (.ref (.bx 2) 0 [] (.agg [(Enc.enc (w_1.a : List Int))]))) (.ref (.bx 2) 0 [0] (Enc.enc (w_1.a : List Int))) h2 rfl rfl ?_
  refine g_v1 (t := 9) (u := (.ref (.bx 2) 0 [0] (Enc.enc (w_1.a : List Int)))) (Enc.enc (w_1.a : List Int)) rfl rfl rfl ?_
  refine g_v (.int .i64 (w_1.a.length : Int)) (ev_len (xs := w_1.a) rfl) ?_
  refine g_v0 (.int .i64 0) rfl rfl ?_
  refine g_end ?_
  refine e_end ?_
  refine renew [(1, (.int .i64 set_2)), (4, (.int .i64 0)), (5, (.int .i64 set_2)), (10, (Enc.enc (w_1.a : List Int))), (11, (.int .i64 (w_1.a.length : Int))), (12, (.int .i64 0))] ⟨h1, h4, h5, rfl, rfl, rfl⟩ ?_
  rintro s ⟨h1, h4, h5, h10, h11, h12⟩
  refine .nsq ?_
  refine .block ?_
  refine .loop ?_
  exact t_f119_l1 H set_2 w_1 F set_2 0 _ ⟨h1, h4, h5, h10, h11, h12⟩ h
end
def e119 (F : Nat) : Ent := ⟨119, da (fun (x : ((S1 (List Int)) × Int × Unit)) => i_net_around F x.1 x.2.1) (fun (r : Int) => (Enc.enc (r : Int))), 0, false, selF []⟩
theorem p119 {F : Nat} {x0 : (S1 (List Int))} {x1 : Int} {r : Int} (h : i_net_around F x0 x1 = some r) : (e119 F).den [Enc.enc x0, Enc.enc x1] = some (Enc.enc (r : Int)) := da_put (f := fun (x : ((S1 (List Int)) × Int × Unit)) => i_net_around F x.1 x.2.1) (t := fun (r : Int) => (Enc.enc (r : Int))) (x0, x1, ()) h
theorem o119 {D : Den} {σ : Sig} {F : Nat} (hF : Fits2 Try.prog D σ) (H : H119 D σ F) : (e119 F).Ok Try.prog := by
  refine ok_of (f := 119) (show unk 119 = 119 from rfl) (fun args r h => ?_) ⟨Try.f119, Try.func119, rfl, rfl⟩
  obtain ⟨⟨x0, x1, _⟩, y, rfl, hy, rfl⟩ := da_open h
  exact contract_run hF (by kernel_rfl) Try.func119 rfl c119 (show 2 ≤ Try.f119.ntmps by decide) (t119 H x0 x1 _ ⟨rfl, rfl⟩ hy)
/- (loop.example/g01109/impl.net).parts -/
def A76_2 : AC := (AC.cond (O.t 9) AC.skip (AC.exit 0))
def A76_7 : AC := (AC.cond (O.t 21) (AC.exit 2) AC.skip)
def A76_8 : AC := (AC.reg [] [(I.mk (some 22) none false (X.v (A.mov (O.t 7)))), (I.mk (some 6) none false (X.v (A.mov (O.t 22))))] [])
def A76_6 : AC := (AC.seq (AC.seq (AC.reg [] [(I.mk (some 19) none false (X.v (A.mov (O.t 7)))), (I.mk (some 20) none false (X.v (A.mov (O.t 6)))), (I.mk (some 21) none false (X.v (A.bin BinOp.eql (O.t 19) (O.t 20))))] []) A76_7) A76_8)
def A76_5 : AC := (AC.block 3 (AC.seq (AC.reg [] [(I.mk (some 14) none false (X.v (A.load (Sh.ag [Sh.p]) (O.t 2)))), (I.mk (some 15) none false (X.v (A.mov (O.t 6)))), (I.mk (some 16) none false (X.call (O.k (V.fn 119 [] [])) [(O.t 14), (O.t 15)])), (I.mk (some 17) none false (X.v (A.mov (O.t 1)))), (I.mk (some 18) none false (X.v (A.bin BinOp.and (O.t 16) (O.t 17)))), (I.mk (some 7) none false (X.v (A.mov (O.t 18))))] []) A76_6))
def A76_10 : AC := (AC.reg [] [(I.mk (some 27) none false (X.v (A.mov (O.t 1)))), (I.mk (some 28) none false (X.v (A.mov (O.t 6)))), (I.mk (some 29) none false (X.v (A.bin BinOp.andNot (O.t 27) (O.t 28)))), (I.mk (some 1) none false (X.v (A.mov (O.t 29))))] [])
def A76_9 : AC := (AC.seq (AC.reg [.clr [25, 26]] [(I.mk (some 23) none false (X.v (A.mov (O.t 5)))), (I.mk (some 24) none false (X.v (A.mov (O.t 6)))), (I.mk (some 25) none false (X.lit (V.int IntKind.i64 (Int.ofNat 0)) 1 [(0, 0, (O.t 24))])), (I.mk (some 26) none false (X.app Sh.s (O.t 23) (O.t 25))), (I.mk (some 5) none false (X.v (A.mov (O.t 26))))] [.home 26 5]) A76_10)
def A76_4 : AC := (AC.seq (AC.block 2 (AC.loop A76_5)) A76_9)
def A76_3 : AC := (AC.block 1 (AC.seq (AC.reg [] [(I.mk (some 10) none false (X.v (A.mov (O.t 1)))), (I.mk (some 11) none false (X.v (A.mov (O.t 1)))), (I.mk (some 12) none false (X.v (A.un UnOp.neg (O.t 11)))), (I.mk (some 13) none false (X.v (A.bin BinOp.and (O.t 10) (O.t 12)))), (I.mk (some 6) none false (X.v (A.mov (O.t 13))))] []) A76_4))
def A76_1 : AC := (AC.seq (AC.seq (AC.reg [] [(I.mk (some 8) none false (X.v (A.mov (O.t 1)))), (I.mk (some 9) none false (X.v (A.bin BinOp.neq (O.t 8) (O.k (V.int IntKind.i64 (Int.ofNat 0))))))] []) A76_2) A76_3)
def A76_11 : AC := (AC.seq (AC.reg [] [(I.mk (some 30) none false (X.v (A.mov (O.t 5)))), (I.mk (some 4) none false (X.v (A.mov (O.t 30))))] [.home 5 4]) AC.ret)
def A76_13 : AC := (AC.seq (AC.block 0 (AC.loop A76_1)) A76_11)
def A76_12 : AC := (AC.seq (AC.reg [] [(I.mk (some 5) none false (X.v (A.mov (O.k (V.sl Tok.nl Sh.s 0 [])))))] []) A76_13)
def A76 : AC := (AC.seq (AC.reg [.clr [2]] [(I.mk (some 2) none false (X.box (O.t 0))), (I.mk (some 4) none false (X.v (A.mov (O.k (V.sl Tok.nl Sh.s 0 [])))))] []) A76_12)
def an76 : List An := [{ id := 0, pre := [.clr [2]], ep := [], lin := [], sp := [] }, { id := 7, pre := [.clr [25, 26]], ep := [.home 26 5], lin := [], sp := [] }, { id := 9, pre := [], ep := [.home 5 4], lin := [], sp := [] }]
theorem c76 : cC Try.prog Try.f76.ntmps an76 (Try.f76.body.getD .skip) = some A76 := by kernel_rfl
structure H76 (D : Den) (σ : Sig) (F : Nat) : Prop where
  c119 : ∀ (x0 : (S1 (List Int))) (x1 : Int) r, i_net_around F x0 x1 = some r → D 119 [Enc.enc x0, Enc.enc x1] = some (Enc.enc (r : Int))
  g119 : σ 119 = some (0, false)
abbrev R76 (r : (List Int)) : (Nat → V) → Prop := RR Try.prog [.tmp 4] 0 false (Enc.enc (r : (List Int)))
section
variable {D : Den} {σ : Sig} {F : Nat} {r : (List Int)}
def i_net_parts_l1 (F : Nat) (set_8 : Int) (w_1 : (S1 (List Int))) (parts_9 : (NL Int)) (c1 : Int → (NL Int) → Option (List Int)) : Nat → Int → Option (List Int)
  | 0, _ => none
  | k + 1, part_16 =>
    (i_net_around F w_1 part_16).bind fun r_18 =>
    bif ((iand .i64 r_18 set_8) == part_16) then
      (appL parts_9.list [part_16]).bind fun ap_19 =>
      c1 (iandNot .i64 set_8 part_16) (.of ap_19)
    else
      (i_net_parts_l1 F set_8 w_1 parts_9 c1 k) (iand .i64 r_18 set_8)
theorem t_f76_l1 (H : H76 D σ F) (set_8 : Int) (w_1 : (S1 (List Int))) (parts_9 : (NL Int)) (c1 : Int → (NL Int) → Option (List Int)) (Hc1 : ∀ (set_8 : Int) (parts_9 : (NL Int)) (s : Nat → V), Facts [(1, (.int .i64 set_8)), (2, (.ref (.bx 2) 0 [] (.agg [(Enc.enc (w_1.a : List Int))]))), (4, (.sl .nl (Enc.shp Int) 0 [])), (5, (encO (.at 5 []) (parts_9 : NL Int)))] s → c1 set_8 parts_9 = some r → Run D σ (R76 r) (.run A76_1 [.lp A76_1, .bk 0, .sq A76_11]) s) : ∀ (k : Nat) (part_16 : Int) (s : Nat → V), Facts [(1, (.int .i64 set_8)), (2, (.ref (.bx 2) 0 [] (.agg [(Enc.enc (w_1.a : List Int))]))), (4, (.sl .nl (Enc.shp Int) 0 [])), (5, (encO (.at 5 []) (parts_9 : NL Int))), (6, (.int .i64 part_16))] s → i_net_parts_l1 F set_8 w_1 parts_9 c1 k part_16 = some r → Run D σ (R76 r) (.run A76_5 [.lp A76_5, .bk 2, .sq A76_9, .bk 1, .lp A76_1, .bk 0, .sq A76_11]) s := by
  intro k
  induction k with
  | zero => intro part_16 s _ h; exact nomatch (h : (none : Option _) = some r)
  | succ k ih =>
    intro part_16 s hs h
    rw [i_net_parts_l1] at h
    obtain ⟨h1, h2, h4, h5, h6⟩ := hs
    refine .block ?_
    refine .seq ?_
    refine run_reg ?_
    refine e_end ?_
    refine g_v1 (t := 2) (u := (.ref (.bx 2) 0 [] (.agg [(Enc.enc (w_1.a : List Int))]))) (.agg [(Enc.enc (w_1.a : List Int))]) h2 rfl rfl ?_
    refine g_v1 (t := 6) (u := (.int .i64 part_16)) (.int .i64 part_16) h6 rfl rfl ?_
    obtain ⟨r_18, E_r_18, h⟩ := bind_some h
    refine g_call (m := 0) (al := false) (r := (Enc.enc (r_18 : Int))) [Enc.enc (w_1 : (S1 (List Int))), Enc.enc (part_16 : Int)] (ta_cons (v := (.agg [(Enc.enc (w_1.a : List Int))])) rfl rfl (Enc.erase_enc (w_1 : (S1 (List Int)))) (ta_cons (v := (.int .i64 part_16)) rfl rfl rfl ta_nil)) (H.c119 _ _ _ E_r_18) H.g119 rfl rfl rfl rfl ?_
    refine g_v1 (t := 1) (u := (.int .i64 set_8)) (.int .i64 set_8) h1 rfl rfl ?_
    refine g_v2 (t1 := 16) (t2 := 17) (u1 := (.int .i64 r_18)) (u2 := (.int .i64 set_8)) (.int .i64 (iand .i64 r_18 set_8)) rfl rfl rfl rfl ?_
    refine g_v1 (t := 18) (u := (.int .i64 (iand .i64 r_18 set_8))) (.int .i64 (iand .i64 r_18 set_8)) rfl rfl rfl ?_
    refine g_end ?_
    refine e_end ?_
    refine renew [(1, (.int .i64 set_8)), (2, (.ref (.bx 2) 0 [] (.agg [(Enc.enc (w_1.a : List Int))]))), (4, (.sl .nl (Enc.shp Int) 0 [])), (5, (encO (.at 5 []) (parts_9 : NL Int))), (6, (.int .i64 part_16)), (7, (.int .i64 (iand .i64 r_18 set_8)))] ⟨h1, h2, h4, h5, h6, rfl⟩ ?_
    rintro s ⟨h1, h2, h4, h5, h6, h7⟩
    refine .nsq ?_
    refine .seq ?_
    refine .seq ?_
    refine run_reg ?_
    refine e_end ?_
    refine g_v1 (t := 7) (u := (.int .i64 (iand .i64 r_18 set_8))) (.int .i64 (iand .i64 r_18 set_8)) h7 rfl rfl ?_
    refine g_v1 (t := 6) (u := (.int .i64 part_16)) (.int .i64 part_16) h6 rfl rfl ?_
    refine g_v2 (t1 := 19) (t2 := 20) (u1 := (.int .i64 (iand .i64 r_18 set_8))) (u2 := (.int .i64 part_16)) (.bool ((iand .i64 r_18 set_8) == part_16)) rfl rfl rfl rfl ?_
    refine g_end ?_
    refine e_end ?_
    refine renew [(1, (.int .i64 set_8)), (2, (.ref (.bx 2) 0 [] (.agg [(Enc.enc (w_1.a : List Int))]))), (4, (.sl .nl (Enc.shp Int) 0 [])), (5, (encO (.at 5 []) (parts_9 : NL Int))), (6, (.int .i64 part_16)), (7, (.int .i64 (iand .i64 r_18 set_8))), (21, (.bool ((iand .i64 r_18 set_8) == part_16)))] ⟨h1, h2, h4, h5, h6, h7, rfl⟩ ?_
    rintro s ⟨h1, h2, h4, h5, h6, h7, h21⟩
    refine .nsq ?_
    refine run_cond (t := ((iand .i64 r_18 set_8) == part_16)) h21 h (fun h => ?_) (fun h => ?_)
    · refine .exit ?_
      refine .esq ?_
      refine .ebn (by decide) ?_
      refine .elp ?_
      refine .ebk ?_
      refine .nsq ?_
      refine .seq ?_
      refine run_reg ?_
      refine e_clr ?_
      refine e_end ?_
      refine g_v (encO (.at 5 []) (parts_9 : NL Int)) (ev_mov (keep_clear (s := s) (pk := [25, 26]) h5 rfl (map_encO (r := 5) (p := []) rfl rfl)) ok_encO) ?_
      refine g_v1 (t := 6) (u := (.int .i64 part_16)) (.int .i64 part_16) (keep_clear (s := s) (pk := [25, 26]) h6 rfl rfl) rfl rfl ?_
      refine g_litL [(24, (.int .i64 part_16))] [Enc.enc (part_16 : Int)] rfl rfl rfl (gone_clear (s := s) (pk := [25, 26]) (t := 25) rfl) ?_
      obtain ⟨ap_19, E_ap_19, h⟩ := bind_some h
      refine g_app (q := 5) (p := []) (o := (parts_9 : NL Int)) (ys := ([part_16] : List Int)) (t2 := (.at 25 [])) (lo2 := 0) rfl rfl rfl (gone_clear (s := s) (pk := [25, 26]) (t := 26) rfl) (appN_L (o := (parts_9 : NL Int)) E_ap_19 (by split <;> simp)) (fun s_9 ha_9 => ?_)
      refine g_v1 (t := 26) (u := (encO (.at 26 []) (.of (ap_19 : List Int)))) (encO (.at 26 []) (.of (ap_19 : List Int))) rfl rfl rfl ?_
      refine g_end ?_
      refine e_home (r := 26) (x := 5) (v := (encO (.at 26 []) (.of (ap_19 : List Int)))) (by exact rfl) rfl (fun s_10 hg_10 => ?_)
      refine e_end ?_
      refine renew [(1, (.int .i64 set_8)), (2, (.ref (.bx 2) 0 [] (.agg [(Enc.enc (w_1.a : List Int))]))), (4, (.sl .nl (Enc.shp Int) 0 [])), (5, (encO (.at 5 []) (.of (ap_19 : List Int)))), (6, (.int .i64 part_16))] ⟨(hg_10 1 (.int .i64 set_8) (.int .i64 set_8) (show s_9 1 = (.int .i64 set_8) from keep_app ha_9 (keep_clear (s := s) (pk := [25, 26]) h1 rfl rfl) rfl) rfl), (hg_10 2 (.ref (.bx 2) 0 [] (.agg [(Enc.enc (w_1.a : List Int))])) (.ref (.bx 2) 0 [] (.agg [(Enc.enc (w_1.a : List Int))])) (show s_9 2 = (.ref (.bx 2) 0 [] (.agg [(Enc.enc (w_1.a : List Int))])) from keep_app ha_9 (keep_clear (s := s) (pk := [25, 26]) h2 rfl (map_bx rfl (map_agg (maps_cons (Enc.map_enc _ (w_1.a : List Int)) maps_nil)))) (map_bx rfl (map_agg (maps_cons (Enc.map_enc _ (w_1.a : List Int)) maps_nil)))) (map_bx rfl (map_agg (maps_cons (Enc.map_enc _ (w_1.a : List Int)) maps_nil)))), (hg_10 4 (.sl .nl (Enc.shp Int) 0 []) (.sl .nl (Enc.shp Int) 0 []) (show s_9 4 = (.sl .nl (Enc.shp Int) 0 []) from keep_app ha_9 (keep_clear (s := s) (pk := [25, 26]) h4 rfl rfl) rfl) rfl), (hg_10 5 (encO (.at 26 []) (.of (ap_19 : List Int))) (encO (.at 5 []) (.of (ap_19 : List Int))) rfl (map_encO (r := 26) (p := []) rfl rfl)), (hg_10 6 (.int .i64 part_16) (.int .i64 part_16) (show s_9 6 = (.int .i64 part_16) from keep_app ha_9 (keep_clear (s := s) (pk := [25, 26]) h6 rfl rfl) rfl) rfl)⟩ ?_
      rintro s ⟨h1, h2, h4, h5, h6⟩
      refine .nsq ?_
      refine run_reg ?_
      refine e_end ?_
      refine g_v1 (t := 1) (u := (.int .i64 set_8)) (.int .i64 set_8) h1 rfl rfl ?_
      refine g_v1 (t := 6) (u := (.int .i64 part_16)) (.int .i64 part_16) h6 rfl rfl ?_
      refine g_v2 (t1 := 27) (t2 := 28) (u1 := (.int .i64 set_8)) (u2 := (.int .i64 part_16)) (.int .i64 (iandNot .i64 set_8 part_16)) rfl rfl rfl rfl ?_
      refine g_v1 (t := 29) (u := (.int .i64 (iandNot .i64 set_8 part_16))) (.int .i64 (iandNot .i64 set_8 part_16)) rfl rfl rfl ?_
      refine g_end ?_
      refine e_end ?_
      refine renew [(1, (.int .i64 (iandNot .i64 set_8 part_16))), (2, (.ref (.bx 2) 0 [] (.agg [(Enc.enc (w_1.a : List Int))]))), (4, (.sl .nl (Enc.shp Int) 0 [])), (5, (encO (.at 5 []) (.of (ap_19 : List Int))))] ⟨rfl, h2, h4, h5⟩ ?_
      rintro s ⟨h1, h2, h4, h5⟩
      refine .nbk ?_
      refine .nlp ?_
      exact Hc1 (iandNot .i64 set_8 part_16) (.of ap_19) _ ⟨h1, h2, h4, h5⟩ h
    · refine .skip ?_
      refine .nsq ?_
      refine run_reg ?_
      refine e_end ?_
      refine g_v1 (t := 7) (u := (.int .i64 (iand .i64 r_18 set_8))) (.int .i64 (iand .i64 r_18 set_8)) h7 rfl rfl ?_
      refine g_v1 (t := 22) (u := (.int .i64 (iand .i64 r_18 set_8))) (.int .i64 (iand .i64 r_18 set_8)) rfl rfl rfl ?_
      refine g_end ?_
      refine e_end ?_
      refine renew [(1, (.int .i64 set_8)), (2, (.ref (.bx 2) 0 [] (.agg [(Enc.enc (w_1.a : List Int))]))), (4, (.sl .nl (Enc.shp Int) 0 [])), (5, (encO (.at 5 []) (parts_9 : NL Int))), (6, (.int .i64 (iand .i64 r_18 set_8)))] ⟨h1, h2, h4, h5, rfl⟩ ?_
      rintro s ⟨h1, h2, h4, h5, h6⟩
      refine .nbk ?_
      refine .nlp ?_
      exact ih (iand .i64 r_18 set_8) _ ⟨h1, h2, h4, h5, h6⟩ h
def i_net_parts_l2 (F : Nat) (w_1 : (S1 (List Int)))  : Nat → Int → (NL Int) → Option (List Int)
  | 0, _, _ => none
  | k + 1, set_8, parts_9 =>
    bif (set_8 != 0) then
      i_net_parts_l1 F set_8 w_1 parts_9 (i_net_parts_l2 F w_1 k) F (iand .i64 set_8 (w64 (0 - set_8)))
    else
      some parts_9.list
theorem t_f76_l2 (H : H76 D σ F) (w_1 : (S1 (List Int)))  : ∀ (k : Nat) (set_8 : Int) (parts_9 : (NL Int)) (s : Nat → V), Facts [(1, (.int .i64 set_8)), (2, (.ref (.bx 2) 0 [] (.agg [(Enc.enc (w_1.a : List Int))]))), (4, (.sl .nl (Enc.shp Int) 0 [])), (5, (encO (.at 5 []) (parts_9 : NL Int)))] s → i_net_parts_l2 F w_1 k set_8 parts_9 = some r → Run D σ (R76 r) (.run A76_1 [.lp A76_1, .bk 0, .sq A76_11]) s := by
  intro k
  induction k with
  | zero => intro set_8 parts_9 s _ h; exact nomatch (h : (none : Option _) = some r)
  | succ k ih =>
    intro set_8 parts_9 s hs h
    rw [i_net_parts_l2] at h
    obtain ⟨h1, h2, h4, h5⟩ := hs
    refine .seq ?_
    refine .seq ?_
    refine run_reg ?_
    refine e_end ?_
    refine g_v1 (t := 1) (u := (.int .i64 set_8)) (.int .i64 set_8) h1 rfl rfl ?_
    refine g_v1 (t := 8) (u := (.int .i64 set_8)) (.bool (set_8 != 0)) rfl rfl rfl ?_
    refine g_end ?_
    refine e_end ?_
    refine renew [(1, (.int .i64 set_8)), (2, (.ref (.bx 2) 0 [] (.agg [(Enc.enc (w_1.a : List Int))]))), (4, (.sl .nl (Enc.shp Int) 0 [])), (5, (encO (.at 5 []) (parts_9 : NL Int))), (9, (.bool (set_8 != 0)))] ⟨h1, h2, h4, h5, rfl⟩ ?_
    rintro s ⟨h1, h2, h4, h5, h9⟩
    refine .nsq ?_
    refine run_cond (t := (set_8 != 0)) h9 h (fun h => ?_) (fun h => ?_)
    · refine .skip ?_
      refine .nsq ?_
      refine .block ?_
      refine .seq ?_
      refine run_reg ?_
      refine e_end ?_
      refine g_v1 (t := 1) (u := (.int .i64 set_8)) (.int .i64 set_8) h1 rfl rfl ?_
      refine g_v1 (t := 1) (u := (.int .i64 set_8)) (.int .i64 set_8) h1 rfl rfl ?_
      refine g_v1 (t := 11) (u := (.int .i64 set_8)) (.int .i64 (w64 (0 - set_8))) rfl rfl rfl ?_
      refine g_v2 (t1 := 10) (t2 := 12) (u1 := (.int .i64 set_8)) (u2 := (.int .i64 (w64 (0 - set_8)))) (.int .i64 (iand .i64 set_8 (w64 (0 - set_8)))) rfl rfl rfl rfl ?_
      refine g_v1 (t := 13) (u := (.int .i64 (iand .i64 set_8 (w64 (0 - set_8))))) (.int .i64 (iand .i64 set_8 (w64 (0 - set_8)))) rfl rfl rfl ?_
      refine g_end ?_
      refine e_end ?_
      refine renew [(1, (.int .i64 set_8)), (2, (.ref (.bx 2) 0 [] (.agg [(Enc.enc (w_1.a : List Int))]))), (4, (.sl .nl (Enc.shp Int) 0 [])), (5, (encO (.at 5 []) (parts_9 : NL Int))), (6, (.int .i64 (iand .i64 set_8 (w64 (0 - set_8)))))] ⟨h1, h2, h4, h5, rfl⟩ ?_
      rintro s ⟨h1, h2, h4, h5, h6⟩
      refine .nsq ?_
      refine .seq ?_
      refine .block ?_
      refine .loop ?_
      exact t_f76_l1 H set_8 w_1 parts_9 (i_net_parts_l2 F w_1 k) ih F (iand .i64 set_8 (w64 (0 - set_8))) _ ⟨h1, h2, h4, h5, h6⟩ h
    · refine .exit ?_
      refine .esq ?_
      refine .elp ?_
      refine .ebk ?_
      refine .nsq ?_
      refine .seq ?_
      refine run_reg ?_
      refine e_end ?_
      refine g_v (encO (.at 5 []) (parts_9 : NL Int)) (ev_mov h5 ok_encO) ?_
      refine g_v (encO (.at 5 []) (parts_9 : NL Int)) (ev_mov rfl ok_encO) ?_
      refine g_end ?_
      refine e_home (r := 5) (x := 4) (v := (encO (.at 5 []) (parts_9 : NL Int))) (by exact rfl) ok_encO (fun s_11 hg_11 => ?_)
      refine e_end ?_
      refine renew [(4, (encO (.at 4 []) (parts_9 : NL Int)))] (hg_11 4 (encO (.at 5 []) (parts_9 : NL Int)) (encO (.at 4 []) (parts_9 : NL Int)) rfl (map_encO (r := 5) (p := []) rfl rfl)) ?_
      rintro s h4
      refine .nsq ?_
      refine .ret ?_
      have hr := Option.some.inj h
      subst hr
      exact rrA (res_tmp h4) (fin_retF (fin_own (o := parts_9)) (mine_own rfl))
def i_net_parts (F : Nat) (w_1 : (S1 (List Int))) (set_2 : Int) : Option (List Int) :=
  i_net_parts_l2 F w_1 F set_2 .nil
theorem t76 (H : H76 D σ F) (w_1 : (S1 (List Int))) (set_2 : Int) (s : Nat → V) (hs : Facts [(0, (.agg [(Enc.enc (w_1.a : List Int))])), (1, (.int .i64 set_2))] s) (h : i_net_parts F w_1 set_2 = some r) : Run D σ (R76 r) (.run A76 []) s := by
  unfold i_net_parts at h
  obtain ⟨h0, h1⟩ := hs
  refine .seq ?_
  refine run_reg ?_
  refine e_clr ?_
  refine e_end ?_
  refine g_box (.agg [(Enc.enc (w_1.a : List Int))]) (rd_of (keep_clear (s := s) (pk := [2]) h0 rfl (map_agg (maps_cons (Enc.map_enc _ (w_1.a : List Int)) maps_nil))) rfl) (gone_clear (s := s) (pk := [2]) (t := 2) rfl) rfl ?_
  refine g_v0 (.sl .nl (Enc.shp Int) 0 []) rfl rfl ?_
  refine g_end ?_
  refine e_end ?_
  refine renew [(1, (.int .i64 set_2)), (2, (.ref (.bx 2) 0 [] (.agg [(Enc.enc (w_1.a : List Int))]))), (4, (.sl .nl (Enc.shp Int) 0 []))] ⟨(keep_clear (s := s) (pk := [2]) h1 rfl rfl), rfl, rfl⟩ ?_
  rintro s ⟨h1, h2, h4⟩
  refine .nsq ?_
  refine .seq ?_
  refine run_reg ?_
  refine e_end ?_
  refine g_v0 (.sl .nl (Enc.shp Int) 0 []) rfl rfl ?_
  refine g_end ?_
  refine e_end ?_
  refine renew [(1, (.int .i64 set_2)), (2, (.ref (.bx 2) 0 [] (.agg [(Enc.enc (w_1.a : List Int))]))), (4, (.sl .nl (Enc.shp Int) 0 [])), (5, (.sl .nl (Enc.shp Int) 0 []))] ⟨h1, h2, h4, rfl⟩ ?_
  rintro s ⟨h1, h2, h4, h5⟩
  refine .nsq ?_
  refine .seq ?_
  refine .block ?_
  refine .loop ?_
  exact t_f76_l2 H w_1 F set_2 .nil _ ⟨h1, h2, h4, h5⟩ h
end
def e76 (F : Nat) : Ent := ⟨76, da (fun (x : ((S1 (List Int)) × Int × Unit)) => i_net_parts F x.1 x.2.1) (fun (r : (List Int)) => (Enc.enc (r : (List Int)))), 0, false, selF []⟩
theorem p76 {F : Nat} {x0 : (S1 (List Int))} {x1 : Int} {r : (List Int)} (h : i_net_parts F x0 x1 = some r) : (e76 F).den [Enc.enc x0, Enc.enc x1] = some (Enc.enc (r : (List Int))) := da_put (f := fun (x : ((S1 (List Int)) × Int × Unit)) => i_net_parts F x.1 x.2.1) (t := fun (r : (List Int)) => (Enc.enc (r : (List Int)))) (x0, x1, ()) h
theorem o76 {D : Den} {σ : Sig} {F : Nat} (hF : Fits2 Try.prog D σ) (H : H76 D σ F) : (e76 F).Ok Try.prog := by
  refine ok_of (f := 76) (show unk 76 = 76 from rfl) (fun args r h => ?_) ⟨Try.f76, Try.func76, rfl, rfl⟩
  obtain ⟨⟨x0, x1, _⟩, y, rfl, hy, rfl⟩ := da_open h
  exact contract_run hF (by kernel_rfl) Try.func76 rfl c76 (show 2 ≤ Try.f76.ntmps by decide) (t76 H x0 x1 _ ⟨rfl, rfl⟩ hy)
/- math/bits.OnesCount64 -/
def A103_7 : AC := (AC.seq (AC.reg [] [(I.mk (some 32) none false (X.v (A.mov (O.t 0)))), (I.mk (some 33) none false (X.v (A.conv IntKind.i64 (O.t 32)))), (I.mk (some 34) none false (X.v (A.bin BinOp.and (O.t 33) (O.k (V.int IntKind.i64 (Int.ofNat 127)))))), (I.mk (some 2) none false (X.v (A.mov (O.t 34))))] []) AC.ret)
def A103_6 : AC := (AC.seq (AC.reg [] [(I.mk (some 28) none false (X.v (A.mov (O.t 0)))), (I.mk (some 29) none false (X.v (A.mov (O.t 0)))), (I.mk (some 30) none false (X.v (A.bin BinOp.shr (O.t 29) (O.k (V.int IntKind.u64 (Int.ofNat 32)))))), (I.mk (some 31) none false (X.v (A.bin BinOp.add (O.t 28) (O.t 30)))), (I.mk (some 0) none false (X.v (A.mov (O.t 31))))] []) A103_7)
def A103_5 : AC := (AC.seq (AC.reg [] [(I.mk (some 24) none false (X.v (A.mov (O.t 0)))), (I.mk (some 25) none false (X.v (A.mov (O.t 0)))), (I.mk (some 26) none false (X.v (A.bin BinOp.shr (O.t 25) (O.k (V.int IntKind.u64 (Int.ofNat 16)))))), (I.mk (some 27) none false (X.v (A.bin BinOp.add (O.t 24) (O.t 26)))), (I.mk (some 0) none false (X.v (A.mov (O.t 27))))] []) A103_6)
def A103_4 : AC := (AC.seq (AC.reg [] [(I.mk (some 20) none false (X.v (A.mov (O.t 0)))), (I.mk (some 21) none false (X.v (A.mov (O.t 0)))), (I.mk (some 22) none false (X.v (A.bin BinOp.shr (O.t 21) (O.k (V.int IntKind.u64 (Int.ofNat 8)))))), (I.mk (some 23) none false (X.v (A.bin BinOp.add (O.t 20) (O.t 22)))), (I.mk (some 0) none false (X.v (A.mov (O.t 23))))] []) A103_5)
def A103_3 : AC := (AC.seq (AC.reg [] [(I.mk (some 15) none false (X.v (A.mov (O.t 0)))), (I.mk (some 16) none false (X.v (A.bin BinOp.shr (O.t 15) (O.k (V.int IntKind.u64 (Int.ofNat 4)))))), (I.mk (some 17) none false (X.v (A.mov (O.t 0)))), (I.mk (some 18) none false (X.v (A.bin BinOp.add (O.t 16) (O.t 17)))), (I.mk (some 19) none false (X.v (A.bin BinOp.and (O.t 18) (O.k (V.int IntKind.u64 (Int.ofNat 1085102592571150095)))))), (I.mk (some 0) none false (X.v (A.mov (O.t 19))))] []) A103_4)
def A103_2 : AC := (AC.seq (AC.reg [] [(I.mk (some 9) none false (X.v (A.mov (O.t 0)))), (I.mk (some 10) none false (X.v (A.bin BinOp.shr (O.t 9) (O.k (V.int IntKind.u64 (Int.ofNat 2)))))), (I.mk (some 11) none false (X.v (A.bin BinOp.and (O.t 10) (O.k (V.int IntKind.u64 (Int.ofNat 3689348814741910323)))))), (I.mk (some 12) none false (X.v (A.mov (O.t 0)))), (I.mk (some 13) none false (X.v (A.bin BinOp.and (O.t 12) (O.k (V.int IntKind.u64 (Int.ofNat 3689348814741910323)))))), (I.mk (some 14) none false (X.v (A.bin BinOp.add (O.t 11) (O.t 13)))), (I.mk (some 0) none false (X.v (A.mov (O.t 14))))] []) A103_3)
def A103_1 : AC := (AC.seq (AC.reg [] [(I.mk (some 3) none false (X.v (A.mov (O.t 0)))), (I.mk (some 4) none false (X.v (A.bin BinOp.shr (O.t 3) (O.k (V.int IntKind.u64 (Int.ofNat 1)))))), (I.mk (some 5) none false (X.v (A.bin BinOp.and (O.t 4) (O.k (V.int IntKind.u64 (Int.ofNat 6148914691236517205)))))), (I.mk (some 6) none false (X.v (A.mov (O.t 0)))), (I.mk (some 7) none false (X.v (A.bin BinOp.and (O.t 6) (O.k (V.int IntKind.u64 (Int.ofNat 6148914691236517205)))))), (I.mk (some 8) none false (X.v (A.bin BinOp.add (O.t 5) (O.t 7)))), (I.mk (some 0) none false (X.v (A.mov (O.t 8))))] []) A103_2)
def A103 : AC := (AC.seq (AC.reg [] [(I.mk (some 2) none false (X.v (A.mov (O.k (V.int IntKind.i64 (Int.ofNat 0))))))] []) A103_1)
def an103 : List An := []
theorem c103 : cC Try.prog Try.f103.ntmps an103 (Try.f103.body.getD .skip) = some A103 := by kernel_rfl
structure H103 (D : Den) (σ : Sig) (F : Nat) : Prop where
  mk ::
abbrev R103 (r : Int) : (Nat → V) → Prop := RR Try.prog [.tmp 2] 0 false (Enc.enc (r : Int))
section
variable {D : Den} {σ : Sig} {F : Nat} {r : Int}
def bits_OnesCount64 (F : Nat) (x_1 : (Kd .u64)) : Option Int :=
  (shrI .u64 x_1.v 1).bind fun q_2 =>
  (shrI .u64 (IntKind.u64.wrap ((iand .u64 q_2 6148914691236517205) + (iand .u64 x_1.v 6148914691236517205))) 2).bind fun q_3 =>
  (shrI .u64 (IntKind.u64.wrap ((iand .u64 q_3 3689348814741910323) + (iand .u64 (IntKind.u64.wrap ((iand .u64 q_2 6148914691236517205) + (iand .u64 x_1.v 6148914691236517205))) 3689348814741910323))) 4).bind fun q_4 =>
  (shrI .u64 (iand .u64 (IntKind.u64.wrap (q_4 + (IntKind.u64.wrap ((iand .u64 q_3 3689348814741910323) + (iand .u64 (IntKind.u64.wrap ((iand .u64 q_2 6148914691236517205) + (iand .u64 x_1.v 6148914691236517205))) 3689348814741910323))))) 1085102592571150095) 8).bind fun q_5 =>
  (shrI .u64 (IntKind.u64.wrap ((iand .u64 (IntKind.u64.wrap (q_4 + (IntKind.u64.wrap ((iand .u64 q_3 3689348814741910323) + (iand .u64 (IntKind.u64.wrap ((iand .u64 q_2 6148914691236517205) + (iand .u64 x_1.v 6148914691236517205))) 3689348814741910323))))) 1085102592571150095) + q_5)) 16).bind fun q_6 =>
  (shrI .u64 (IntKind.u64.wrap ((IntKind.u64.wrap ((iand .u64 (IntKind.u64.wrap (q_4 + (IntKind.u64.wrap ((iand .u64 q_3 3689348814741910323) + (iand .u64 (IntKind.u64.wrap ((iand .u64 q_2 6148914691236517205) + (iand .u64 x_1.v 6148914691236517205))) 3689348814741910323))))) 1085102592571150095) + q_5)) + q_6)) 32).bind fun q_7 =>
  some (iand .i64 (w64 (IntKind.u64.wrap ((IntKind.u64.wrap ((IntKind.u64.wrap ((iand .u64 (IntKind.u64.wrap (q_4 + (IntKind.u64.wrap ((iand .u64 q_3 3689348814741910323) + (iand .u64 (IntKind.u64.wrap ((iand .u64 q_2 6148914691236517205) + (iand .u64 x_1.v 6148914691236517205))) 3689348814741910323))))) 1085102592571150095) + q_5)) + q_6)) + q_7))) 127)
theorem t103 (H : H103 D σ F) (x_1 : (Kd .u64)) (s : Nat → V) (hs : Facts [(0, (.int .u64 x_1.v))] s) (h : bits_OnesCount64 F x_1 = some r) : Run D σ (R103 r) (.run A103 []) s := by
  unfold bits_OnesCount64 at h
  have h0 := hs
  refine .seq ?_
  refine run_reg ?_
  refine e_end ?_
  refine g_v0 (.int .i64 0) rfl rfl ?_
  refine g_end ?_
  refine e_end ?_
  refine renew [(0, (.int .u64 x_1.v)), (2, (.int .i64 0))] ⟨h0, rfl⟩ ?_
  rintro s ⟨h0, h2⟩
  refine .nsq ?_
  refine .seq ?_
  refine run_reg ?_
  refine e_end ?_
  refine g_v1 (t := 0) (u := (.int .u64 x_1.v)) (.int .u64 x_1.v) h0 rfl rfl ?_
  obtain ⟨q_2, E_q_2, h⟩ := bind_some h
  refine g_v (.int .u64 q_2) (ev_shr rfl rfl E_q_2) ?_
  refine g_v1 (t := 4) (u := (.int .u64 q_2)) (.int .u64 (iand .u64 q_2 6148914691236517205)) rfl rfl rfl ?_
  refine g_v1 (t := 0) (u := (.int .u64 x_1.v)) (.int .u64 x_1.v) h0 rfl rfl ?_
  refine g_v1 (t := 6) (u := (.int .u64 x_1.v)) (.int .u64 (iand .u64 x_1.v 6148914691236517205)) rfl rfl rfl ?_
  refine g_v2 (t1 := 5) (t2 := 7) (u1 := (.int .u64 (iand .u64 q_2 6148914691236517205))) (u2 := (.int .u64 (iand .u64 x_1.v 6148914691236517205))) (.int .u64 (IntKind.u64.wrap ((iand .u64 q_2 6148914691236517205) + (iand .u64 x_1.v 6148914691236517205)))) rfl rfl rfl rfl ?_
  refine g_v1 (t := 8) (u := (.int .u64 (IntKind.u64.wrap ((iand .u64 q_2 6148914691236517205) + (iand .u64 x_1.v 6148914691236517205))))) (.int .u64 (IntKind.u64.wrap ((iand .u64 q_2 6148914691236517205) + (iand .u64 x_1.v 6148914691236517205)))) rfl rfl rfl ?_
  refine g_end ?_
  refine e_end ?_
  refine renew [(0, (.int .u64 (IntKind.u64.wrap ((iand .u64 q_2 6148914691236517205) + (iand .u64 x_1.v 6148914691236517205))))), (2, (.int .i64 0))] ⟨rfl, h2⟩ ?_
  rintro s ⟨h0, h2⟩
  refine .nsq ?_
  refine .seq ?_
  refine run_reg ?_
  refine e_end ?_
  refine g_v1 (t := 0) (u := (.int .u64 (IntKind.u64.wrap ((iand .u64 q_2 6148914691236517205) + (iand .u64 x_1.v 6148914691236517205))))) (.int .u64 (IntKind.u64.wrap ((iand .u64 q_2 6148914691236517205) + (iand .u64 x_1.v 6148914691236517205)))) h0 rfl rfl ?_
  obtain ⟨q_3, E_q_3, h⟩ := bind_some h
  refine g_v (.int .u64 q_3) (ev_shr rfl rfl E_q_3) ?_
  refine g_v1 (t := 10) (u := (.int .u64 q_3)) (.int .u64 (iand .u64 q_3 3689348814741910323)) rfl rfl rfl ?_
  refine g_v1 (t := 0) (u := (.int .u64 (IntKind.u64.wrap ((iand .u64 q_2 6148914691236517205) + (iand .u64 x_1.v 6148914691236517205))))) (.int .u64 (IntKind.u64.wrap ((iand .u64 q_2 6148914691236517205) + (iand .u64 x_1.v 6148914691236517205)))) h0 rfl rfl ?_
  refine g_v1 (t := 12) (u := (.int .u64 (IntKind.u64.wrap ((iand .u64 q_2 6148914691236517205) + (iand .u64 x_1.v 6148914691236517205))))) (.int .u64 (iand .u64 (IntKind.u64.wrap ((iand .u64 q_2 6148914691236517205) + (iand .u64 x_1.v 6148914691236517205))) 3689348814741910323)) rfl rfl rfl ?_
  refine g_v2 (t1 := 11) (t2 := 13) (u1 := (.int .u64 (iand .u64 q_3 3689348814741910323))) (u2 := (.int .u64 (iand .u64 (IntKind.u64.wrap ((iand .u64 q_2 6148914691236517205) + (iand .u64 x_1.v 6148914691236517205))) 3689348814741910323))) (.int .u64 (IntKind.u64.wrap ((iand .u64 q_3 3689348814741910323) + (iand .u64 (IntKind.u64.wrap ((iand .u64 q_2 6148914691236517205) + (iand .u64 x_1.v 6148914691236517205))) 3689348814741910323)))) rfl rfl rfl rfl ?_
  refine g_v1 (t := 14) (u := (.int .u64 (IntKind.u64.wrap ((iand .u64 q_3 3689348814741910323) + (iand .u64 (IntKind.u64.wrap ((iand .u64 q_2 6148914691236517205) + (iand .u64 x_1.v 6148914691236517205))) 3689348814741910323))))) (.int .u64 (IntKind.u64.wrap ((iand .u64 q_3 3689348814741910323) + (iand .u64 (IntKind.u64.wrap ((iand .u64 q_2 6148914691236517205) + (iand .u64 x_1.v 6148914691236517205))) 3689348814741910323)))) rfl rfl rfl ?_
  refine g_end ?_
  refine e_end ?_
  refine renew [(0, (.int .u64 (IntKind.u64.wrap ((iand .u64 q_3 3689348814741910323) + (iand .u64 (IntKind.u64.wrap ((iand .u64 q_2 6148914691236517205) + (iand .u64 x_1.v 6148914691236517205))) 3689348814741910323))))), (2, (.int .i64 0))] ⟨rfl, h2⟩ ?_
  rintro s ⟨h0, h2⟩
  refine .nsq ?_
  refine .seq ?_
  refine run_reg ?_
  refine e_end ?_
  refine g_v1 (t := 0) (u := (.int .u64 (IntKind.u64.wrap ((iand .u64 q_3 3689348814741910323) + (iand .u64 (IntKind.u64.wrap ((iand .u64 q_2 6148914691236517205) + (iand .u64 x_1.v 6148914691236517205))) 3689348814741910323))))) (.int .u64 (IntKind.u64.wrap ((iand .u64 q_3 3689348814741910323) + (iand .u64 (IntKind.u64.wrap ((iand .u64 q_2 6148914691236517205) + (iand .u64 x_1.v 6148914691236517205))) 3689348814741910323)))) h0 rfl rfl ?_
  obtain ⟨q_4, E_q_4, h⟩ := bind_some h
  refine g_v (.int .u64 q_4) (ev_shr rfl rfl E_q_4) ?_
  refine g_v1 (t := 0) (u := (.int .u64 (IntKind.u64.wrap ((iand .u64 q_3 3689348814741910323) + (iand .u64 (IntKind.u64.wrap ((iand .u64 q_2 6148914691236517205) + (iand .u64 x_1.v 6148914691236517205))) 3689348814741910323))))) (.int .u64 (IntKind.u64.wrap ((iand .u64 q_3 3689348814741910323) + (iand .u64 (IntKind.u64.wrap ((iand .u64 q_2 6148914691236517205) + (iand .u64 x_1.v 6148914691236517205))) 3689348814741910323)))) h0 rfl rfl ?_
  refine g_v2 (t1 := 16) (t2 := 17) (u1 := (.int .u64 q_4)) (u2 := (.int .u64 (IntKind.u64.wrap ((iand .u64 q_3 3689348814741910323) + (iand .u64 (IntKind.u64.wrap ((iand .u64 q_2 6148914691236517205) + (iand .u64 x_1.v 6148914691236517205))) 3689348814741910323))))) (.int .u64 (IntKind.u64.wrap (q_4 + (IntKind.u64.wrap ((iand .u64 q_3 3689348814741910323) + (iand .u64 (IntKind.u64.wrap ((iand .u64 q_2 6148914691236517205) + (iand .u64 x_1.v 6148914691236517205))) 3689348814741910323)))))) rfl rfl rfl rfl ?_
  refine g_v1 (t := 18) (u := (.int .u64 (IntKind.u64.wrap (q_4 + (IntKind.u64.wrap ((iand .u64 q_3 3689348814741910323) + (iand .u64 (IntKind.u64.wrap ((iand .u64 q_2 6148914691236517205) + (iand .u64 x_1.v 6148914691236517205))) 3689348814741910323))))))) (.int .u64 (iand .u64 (IntKind.u64.wrap (q_4 + (IntKind.u64.wrap ((iand .u64 q_3 3689348814741910323) + (iand .u64 (IntKind.u64.wrap ((iand .u64 q_2 6148914691236517205) + (iand .u64 x_1.v 6148914691236517205))) 3689348814741910323))))) 1085102592571150095)) rfl rfl rfl ?_
  refine g_v1 (t := 19) (u := (.int .u64 (iand .u64 (IntKind.u64.wrap (q_4 + (IntKind.u64.wrap ((iand .u64 q_3 3689348814741910323) + (iand .u64 (IntKind.u64.wrap ((iand .u64 q_2 6148914691236517205) + (iand .u64 x_1.v 6148914691236517205))) 3689348814741910323))))) 1085102592571150095))) (.int .u64 (iand .u64 (IntKind.u64.wrap (q_4 + (IntKind.u64.wrap ((iand .u64 q_3 3689348814741910323) + (iand .u64 (IntKind.u64.wrap ((iand .u64 q_2 6148914691236517205) + (iand .u64 x_1.v 6148914691236517205))) 3689348814741910323))))) 1085102592571150095)) rfl rfl rfl ?_
  refine g_end ?_
  refine e_end ?_
  refine renew [(0, (.int .u64 (iand .u64 (IntKind.u64.wrap (q_4 + (IntKind.u64.wrap ((iand .u64 q_3 3689348814741910323) + (iand .u64 (IntKind.u64.wrap ((iand .u64 q_2 6148914691236517205) + (iand .u64 x_1.v 6148914691236517205))) 3689348814741910323))))) 1085102592571150095))), (2, (.int .i64 0))] ⟨rfl, h2⟩ ?_
  rintro s ⟨h0, h2⟩
  refine .nsq ?_
  refine .seq ?_
  refine run_reg ?_
  refine e_end ?_
  refine g_v1 (t := 0) (u := (.int .u64 (iand .u64 (IntKind.u64.wrap (q_4 + (IntKind.u64.wrap ((iand .u64 q_3 3689348814741910323) + (iand .u64 (IntKind.u64.wrap ((iand .u64 q_2 6148914691236517205) + (iand .u64 x_1.v 6148914691236517205))) 3689348814741910323))))) 1085102592571150095))) (.int .u64 (iand .u64 (IntKind.u64.wrap (q_4 + (IntKind.u64.wrap ((iand .u64 q_3 3689348814741910323) + (iand .u64 (IntKind.u64.wrap ((iand .u64 q_2 6148914691236517205) + (iand .u64 x_1.v 6148914691236517205))) 3689348814741910323))))) 1085102592571150095)) h0 rfl rfl ?_
  refine g_v1 (t := 0) (u := (.int .u64 (iand .u64 (IntKind.u64.wrap (q_4 + (IntKind.u64.wrap ((iand .u64 q_3 3689348814741910323) + (iand .u64 (IntKind.u64.wrap ((iand .u64 q_2 6148914691236517205) + (iand .u64 x_1.v 6148914691236517205))) 3689348814741910323))))) 1085102592571150095))) (.int .u64 (iand .u64 (IntKind.u64.wrap (q_4 + (IntKind.u64.wrap ((iand .u64 q_3 3689348814741910323) + (iand .u64 (IntKind.u64.wrap ((iand .u64 q_2 6148914691236517205) + (iand .u64 x_1.v 6148914691236517205))) 3689348814741910323))))) 1085102592571150095)) h0 rfl rfl ?_
  obtain ⟨q_5, E_q_5, h⟩ := bind_some h
  refine g_v (.int .u64 q_5) (ev_shr rfl rfl E_q_5) ?_
  refine g_v2 (t1 := 20) (t2 := 22) (u1 := (.int .u64 (iand .u64 (IntKind.u64.wrap (q_4 + (IntKind.u64.wrap ((iand .u64 q_3 3689348814741910323) + (iand .u64 (IntKind.u64.wrap ((iand .u64 q_2 6148914691236517205) + (iand .u64 x_1.v 6148914691236517205))) 3689348814741910323))))) 1085102592571150095))) (u2 := (.int .u64 q_5)) (.int .u64 (IntKind.u64.wrap ((iand .u64 (IntKind.u64.wrap (q_4 + (IntKind.u64.wrap ((iand .u64 q_3 3689348814741910323) + (iand .u64 (IntKind.u64.wrap ((iand .u64 q_2 6148914691236517205) + (iand .u64 x_1.v 6148914691236517205))) 3689348814741910323))))) 1085102592571150095) + q_5))) rfl rfl rfl rfl ?_
  refine g_v1 (t := 23) (u := (.int .u64 (IntKind.u64.wrap ((iand .u64 (IntKind.u64.wrap (q_4 + (IntKind.u64.wrap ((iand .u64 q_3 3689348814741910323) + (iand .u64 (IntKind.u64.wrap ((iand .u64 q_2 6148914691236517205) + (iand .u64 x_1.v 6148914691236517205))) 3689348814741910323))))) 1085102592571150095) + q_5)))) (.int .u64 (IntKind.u64.wrap ((iand .u64 (IntKind.u64.wrap (q_4 + (IntKind.u64.wrap ((iand .u64 q_3 3689348814741910323) + (iand .u64 (IntKind.u64.wrap ((iand .u64 q_2 6148914691236517205) + (iand .u64 x_1.v 6148914691236517205))) 3689348814741910323))))) 1085102592571150095) + q_5))) rfl rfl rfl ?_
  refine g_end ?_
  refine e_end ?_
  refine renew [(0, (.int .u64 (IntKind.u64.wrap ((iand .u64 (IntKind.u64.wrap (q_4 + (IntKind.u64.wrap ((iand .u64 q_3 3689348814741910323) + (iand .u64 (IntKind.u64.wrap ((iand .u64 q_2 6148914691236517205) + (iand .u64 x_1.v 6148914691236517205))) 3689348814741910323))))) 1085102592571150095) + q_5)))), (2, (.int .i64 0))] ⟨rfl, h2⟩ ?_
  rintro s ⟨h0, h2⟩
  refine .nsq ?_
  refine .seq ?_
  refine run_reg ?_
  refine e_end ?_
  refine g_v1 (t := 0) (u := (.int .u64 (IntKind.u64.wrap ((iand .u64 (IntKind.u64.wrap (q_4 + (IntKind.u64.wrap ((iand .u64 q_3 3689348814741910323) + (iand .u64 (IntKind.u64.wrap ((iand .u64 q_2 6148914691236517205) + (iand .u64 x_1.v 6148914691236517205))) 3689348814741910323))))) 1085102592571150095) + q_5)))) (.int .u64 (IntKind.u64.wrap ((iand .u64 (IntKind.u64.wrap (q_4 + (IntKind.u64.wrap ((iand .u64 q_3 3689348814741910323) + (iand .u64 (IntKind.u64.wrap ((iand .u64 q_2 6148914691236517205) + (iand .u64 x_1.v 6148914691236517205))) 3689348814741910323))))) 1085102592571150095) + q_5))) h0 rfl rfl ?_
  refine g_v1 (t := 0) (u := (.int .u64 (IntKind.u64.wrap ((iand .u64 (IntKind.u64.wrap (q_4 + (IntKind.u64.wrap ((iand .u64 q_3 3689348814741910323) + (iand .u64 (IntKind.u64.wrap ((iand .u64 q_2 6148914691236517205) + (iand .u64 x_1.v 6148914691236517205))) 3689348814741910323))))) 1085102592571150095) + q_5)))) (.int .u64 (IntKind.u64.wrap ((iand .u64 (IntKind.u64.wrap (q_4 + (IntKind.u64.wrap ((iand .u64 q_3 3689348814741910323) + (iand .u64 (IntKind.u64.wrap ((iand .u64 q_2 6148914691236517205) + (iand .u64 x_1.v 6148914691236517205))) 3689348814741910323))))) 1085102592571150095) + q_5))) h0 rfl rfl ?_
  obtain ⟨q_6, E_q_6, h⟩ := bind_some h
  refine g_v (.int .u64 q_6) (ev_shr rfl rfl E_q_6) ?_
  refine g_v2 (t1 := 24) (t2 := 26) (u1 := (.int .u64 (IntKind.u64.wrap ((iand .u64 (IntKind.u64.wrap (q_4 + (IntKind.u64.wrap ((iand .u64 q_3 3689348814741910323) + (iand .u64 (IntKind.u64.wrap ((iand .u64 q_2 6148914691236517205) + (iand .u64 x_1.v 6148914691236517205))) 3689348814741910323))))) 1085102592571150095) + q_5)))) (u2 := (.int .u64 q_6)) (.int .u64 (IntKind.u64.wrap ((IntKind.u64.wrap ((iand .u64 (IntKind.u64.wrap (q_4 + (IntKind.u64.wrap ((iand .u64 q_3 3689348814741910323) + (iand .u64 (IntKind.u64.wrap ((iand .u64 q_2 6148914691236517205) + (iand .u64 x_1.v 6148914691236517205))) 3689348814741910323))))) 1085102592571150095) + q_5)) + q_6))) rfl rfl rfl rfl ?_
  refine g_v1 (t := 27) (u := (.int .u64 (IntKind.u64.wrap ((IntKind.u64.wrap ((iand .u64 (IntKind.u64.wrap (q_4 + (IntKind.u64.wrap ((iand .u64 q_3 3689348814741910323) + (iand .u64 (IntKind.u64.wrap ((iand .u64 q_2 6148914691236517205) + (iand .u64 x_1.v 6148914691236517205))) 3689348814741910323))))) 1085102592571150095) + q_5)) + q_6)))) (.int .u64 (IntKind.u64.wrap ((IntKind.u64.wrap ((iand .u64 (IntKind.u64.wrap (q_4 + (IntKind.u64.wrap ((iand .u64 q_3 3689348814741910323) + (iand .u64 (IntKind.u64.wrap ((iand .u64 q_2 6148914691236517205) + (iand .u64 x_1.v 6148914691236517205))) 3689348814741910323))))) 1085102592571150095) + q_5)) + q_6))) rfl rfl rfl ?_
  refine g_end ?_
  refine e_end ?_
  refine renew [(0, (.int .u64 (IntKind.u64.wrap ((IntKind.u64.wrap ((iand .u64 (IntKind.u64.wrap (q_4 + (IntKind.u64.wrap ((iand .u64 q_3 3689348814741910323) + (iand .u64 (IntKind.u64.wrap ((iand .u64 q_2 6148914691236517205) + (iand .u64 x_1.v 6148914691236517205))) 3689348814741910323))))) 1085102592571150095) + q_5)) + q_6)))), (2, (.int .i64 0))] ⟨rfl, h2⟩ ?_
  rintro s ⟨h0, h2⟩
  refine .nsq ?_
  refine .seq ?_
  refine run_reg ?_
  refine e_end ?_
  refine g_v1 (t := 0) (u := (.int .u64 (IntKind.u64.wrap ((IntKind.u64.wrap ((iand .u64 (IntKind.u64.wrap (q_4 + (IntKind.u64.wrap ((iand .u64 q_3 3689348814741910323) + (iand .u64 (IntKind.u64.wrap ((iand .u64 q_2 6148914691236517205) + (iand .u64 x_1.v 6148914691236517205))) 3689348814741910323))))) 1085102592571150095) + q_5)) + q_6)))) (.int .u64 (IntKind.u64.wrap ((IntKind.u64.wrap ((iand .u64 (IntKind.u64.wrap (q_4 + (IntKind.u64.wrap ((iand .u64 q_3 3689348814741910323) + (iand .u64 (IntKind.u64.wrap ((iand .u64 q_2 6148914691236517205) + (iand .u64 x_1.v 6148914691236517205))) 3689348814741910323))))) 1085102592571150095) + q_5)) + q_6))) h0 rfl rfl ?_
  refine g_v1 (t := 0) (u := (.int .u64 (IntKind.u64.wrap ((IntKind.u64.wrap ((iand .u64 (IntKind.u64.wrap (q_4 + (IntKind.u64.wrap ((iand .u64 q_3 3689348814741910323) + (iand .u64 (IntKind.u64.wrap ((iand .u64 q_2 6148914691236517205) + (iand .u64 x_1.v 6148914691236517205))) 3689348814741910323))))) 1085102592571150095) + q_5)) + q_6)))) (.int .u64 (IntKind.u64.wrap ((IntKind.u64.wrap ((iand .u64 (IntKind.u64.wrap (q_4 + (IntKind.u64.wrap ((iand .u64 q_3 3689348814741910323) + (iand .u64 (IntKind.u64.wrap ((iand .u64 q_2 6148914691236517205) + (iand .u64 x_1.v 6148914691236517205))) 3689348814741910323))))) 1085102592571150095) + q_5)) + q_6))) h0 rfl rfl ?_
  obtain ⟨q_7, E_q_7, h⟩ := bind_some h
  refine g_v (.int .u64 q_7) (ev_shr rfl rfl E_q_7) ?_
  refine g_v2 (t1 := 28) (t2 := 30) (u1 := (.int .u64 (IntKind.u64.wrap ((IntKind.u64.wrap ((iand .u64 (IntKind.u64.wrap (q_4 + (IntKind.u64.wrap ((iand .u64 q_3 3689348814741910323) + (iand .u64 (IntKind.u64.wrap ((iand .u64 q_2 6148914691236517205) + (iand .u64 x_1.v 6148914691236517205))) 3689348814741910323))))) 1085102592571150095) + q_5)) + q_6)))) (u2 := (.int .u64 q_7)) (.int .u64 (IntKind.u64.wrap ((IntKind.u64.wrap ((IntKind.u64.wrap ((iand .u64 (IntKind.u64.wrap (q_4 + (IntKind.u64.wrap ((iand .u64 q_3 3689348814741910323) + (iand .u64 (IntKind.u64.wrap ((iand .u64 q_2 6148914691236517205) + (iand .u64 x_1.v 6148914691236517205))) 3689348814741910323))))) 1085102592571150095) + q_5)) + q_6)) + q_7))) rfl rfl rfl rfl ?_
  refine g_v1 (t := 31) (u := (.int .u64 (IntKind.u64.wrap ((IntKind.u64.wrap ((IntKind.u64.wrap ((iand .u64 (IntKind.u64.wrap (q_4 + (IntKind.u64.wrap ((iand .u64 q_3 3689348814741910323) + (iand .u64 (IntKind.u64.wrap ((iand .u64 q_2 6148914691236517205) + (iand .u64 x_1.v 6148914691236517205))) 3689348814741910323))))) 1085102592571150095) + q_5)) + q_6)) + q_7)))) (.int .u64 (IntKind.u64.wrap ((IntKind.u64.wrap ((IntKind.u64.wrap ((iand .u64 (IntKind.u64.wrap (q_4 + (IntKind.u64.wrap ((iand .u64 q_3 3689348814741910323) + (iand .u64 (IntKind.u64.wrap ((iand .u64 q_2 6148914691236517205) + (iand .u64 x_1.v 6148914691236517205))) 3689348814741910323))))) 1085102592571150095) + q_5)) + q_6)) + q_7))) rfl rfl rfl ?_
  refine g_end ?_
  refine e_end ?_
  refine renew [(0, (.int .u64 (IntKind.u64.wrap ((IntKind.u64.wrap ((IntKind.u64.wrap ((iand .u64 (IntKind.u64.wrap (q_4 + (IntKind.u64.wrap ((iand .u64 q_3 3689348814741910323) + (iand .u64 (IntKind.u64.wrap ((iand .u64 q_2 6148914691236517205) + (iand .u64 x_1.v 6148914691236517205))) 3689348814741910323))))) 1085102592571150095) + q_5)) + q_6)) + q_7)))), (2, (.int .i64 0))] ⟨rfl, h2⟩ ?_
  rintro s ⟨h0, h2⟩
  refine .nsq ?_
  refine .seq ?_
  refine run_reg ?_
  refine e_end ?_
  refine g_v1 (t := 0) (u := (.int .u64 (IntKind.u64.wrap ((IntKind.u64.wrap ((IntKind.u64.wrap ((iand .u64 (IntKind.u64.wrap (q_4 + (IntKind.u64.wrap ((iand .u64 q_3 3689348814741910323) + (iand .u64 (IntKind.u64.wrap ((iand .u64 q_2 6148914691236517205) + (iand .u64 x_1.v 6148914691236517205))) 3689348814741910323))))) 1085102592571150095) + q_5)) + q_6)) + q_7)))) (.int .u64 (IntKind.u64.wrap ((IntKind.u64.wrap ((IntKind.u64.wrap ((iand .u64 (IntKind.u64.wrap (q_4 + (IntKind.u64.wrap ((iand .u64 q_3 3689348814741910323) + (iand .u64 (IntKind.u64.wrap ((iand .u64 q_2 6148914691236517205) + (iand .u64 x_1.v 6148914691236517205))) 3689348814741910323))))) 1085102592571150095) + q_5)) + q_6)) + q_7))) h0 rfl rfl ?_
  refine g_v1 (t := 32) (u := (.int .u64 (IntKind.u64.wrap ((IntKind.u64.wrap ((IntKind.u64.wrap ((iand .u64 (IntKind.u64.wrap (q_4 + (IntKind.u64.wrap ((iand .u64 q_3 3689348814741910323) + (iand .u64 (IntKind.u64.wrap ((iand .u64 q_2 6148914691236517205) + (iand .u64 x_1.v 6148914691236517205))) 3689348814741910323))))) 1085102592571150095) + q_5)) + q_6)) + q_7)))) (.int .i64 (w64 (IntKind.u64.wrap ((IntKind.u64.wrap ((IntKind.u64.wrap ((iand .u64 (IntKind.u64.wrap (q_4 + (IntKind.u64.wrap ((iand .u64 q_3 3689348814741910323) + (iand .u64 (IntKind.u64.wrap ((iand .u64 q_2 6148914691236517205) + (iand .u64 x_1.v 6148914691236517205))) 3689348814741910323))))) 1085102592571150095) + q_5)) + q_6)) + q_7)))) rfl rfl rfl ?_
  refine g_v1 (t := 33) (u := (.int .i64 (w64 (IntKind.u64.wrap ((IntKind.u64.wrap ((IntKind.u64.wrap ((iand .u64 (IntKind.u64.wrap (q_4 + (IntKind.u64.wrap ((iand .u64 q_3 3689348814741910323) + (iand .u64 (IntKind.u64.wrap ((iand .u64 q_2 6148914691236517205) + (iand .u64 x_1.v 6148914691236517205))) 3689348814741910323))))) 1085102592571150095) + q_5)) + q_6)) + q_7))))) (.int .i64 (iand .i64 (w64 (IntKind.u64.wrap ((IntKind.u64.wrap ((IntKind.u64.wrap ((iand .u64 (IntKind.u64.wrap (q_4 + (IntKind.u64.wrap ((iand .u64 q_3 3689348814741910323) + (iand .u64 (IntKind.u64.wrap ((iand .u64 q_2 6148914691236517205) + (iand .u64 x_1.v 6148914691236517205))) 3689348814741910323))))) 1085102592571150095) + q_5)) + q_6)) + q_7))) 127)) rfl rfl rfl ?_
  refine g_v1 (t := 34) (u := (.int .i64 (iand .i64 (w64 (IntKind.u64.wrap ((IntKind.u64.wrap ((IntKind.u64.wrap ((iand .u64 (IntKind.u64.wrap (q_4 + (IntKind.u64.wrap ((iand .u64 q_3 3689348814741910323) + (iand .u64 (IntKind.u64.wrap ((iand .u64 q_2 6148914691236517205) + (iand .u64 x_1.v 6148914691236517205))) 3689348814741910323))))) 1085102592571150095) + q_5)) + q_6)) + q_7))) 127))) (.int .i64 (iand .i64 (w64 (IntKind.u64.wrap ((IntKind.u64.wrap ((IntKind.u64.wrap ((iand .u64 (IntKind.u64.wrap (q_4 + (IntKind.u64.wrap ((iand .u64 q_3 3689348814741910323) + (iand .u64 (IntKind.u64.wrap ((iand .u64 q_2 6148914691236517205) + (iand .u64 x_1.v 6148914691236517205))) 3689348814741910323))))) 1085102592571150095) + q_5)) + q_6)) + q_7))) 127)) rfl rfl rfl ?_
  refine g_end ?_
  refine e_end ?_
  refine renew [(2, (.int .i64 (iand .i64 (w64 (IntKind.u64.wrap ((IntKind.u64.wrap ((IntKind.u64.wrap ((iand .u64 (IntKind.u64.wrap (q_4 + (IntKind.u64.wrap ((iand .u64 q_3 3689348814741910323) + (iand .u64 (IntKind.u64.wrap ((iand .u64 q_2 6148914691236517205) + (iand .u64 x_1.v 6148914691236517205))) 3689348814741910323))))) 1085102592571150095) + q_5)) + q_6)) + q_7))) 127)))] rfl ?_
  rintro s h2
  refine .nsq ?_
  refine .ret ?_
  have hr := Option.some.inj h
  subst hr
  exact rrA (res_tmp h2) rfl
end
def e103 (F : Nat) : Ent := ⟨103, da (fun (x : ((Kd .u64) × Unit)) => bits_OnesCount64 F x.1) (fun (r : Int) => (Enc.enc (r : Int))), 0, false, selF []⟩
theorem p103 {F : Nat} {x0 : (Kd .u64)} {r : Int} (h : bits_OnesCount64 F x0 = some r) : (e103 F).den [Enc.enc x0] = some (Enc.enc (r : Int)) := da_put (f := fun (x : ((Kd .u64) × Unit)) => bits_OnesCount64 F x.1) (t := fun (r : Int) => (Enc.enc (r : Int))) (x0, ()) h
theorem o103 {D : Den} {σ : Sig} {F : Nat} (hF : Fits2 Try.prog D σ) (H : H103 D σ F) : (e103 F).Ok Try.prog := by
  refine ok_of (f := 103) (show unk 103 = 103 from rfl) (fun args r h => ?_) ⟨Try.f103, Try.func103, rfl, rfl⟩
  obtain ⟨⟨x0, _⟩, y, rfl, hy, rfl⟩ := da_open h
  exact contract_run hF (by kernel_rfl) Try.func103 rfl c103 (show 1 ≤ Try.f103.ntmps by decide) (t103 H x0 _ rfl hy)
/- math/bits.OnesCount -/
def A52_2 : AC := (AC.seq (AC.reg [] [(I.mk (some 6) none false (X.v (A.mov (O.t 0)))), (I.mk (some 7) none false (X.call (O.k (V.fn 103 [] [])) [(O.t 6)])), (I.mk (some 2) none false (X.v (A.mov (O.t 7))))] []) AC.ret)
def A52_1 : AC := (AC.seq (AC.cond (O.k (V.bool false)) (AC.seq (AC.reg [] [(I.mk (some 3) none false (X.v (A.mov (O.t 0)))), (I.mk (some 4) none false (X.v (A.conv IntKind.u32 (O.t 3)))), (I.mk (some 5) none false (X.call (O.k (V.fn 102 [] [])) [(O.t 4)])), (I.mk (some 2) none false (X.v (A.mov (O.t 5))))] []) AC.ret) AC.skip) A52_2)
def A52 : AC := (AC.seq (AC.reg [] [(I.mk (some 2) none false (X.v (A.mov (O.k (V.int IntKind.i64 (Int.ofNat 0))))))] []) A52_1)
def an52 : List An := []
theorem c52 : cC Try.prog Try.f52.ntmps an52 (Try.f52.body.getD .skip) = some A52 := by kernel_rfl
structure H52 (D : Den) (σ : Sig) (F : Nat) : Prop where
  c103 : ∀ (x0 : (Kd .u64)) r, bits_OnesCount64 F x0 = some r → D 103 [Enc.enc x0] = some (Enc.enc (r : Int))
  g103 : σ 103 = some (0, false)
abbrev R52 (r : Int) : (Nat → V) → Prop := RR Try.prog [.tmp 2] 0 false (Enc.enc (r : Int))
section
variable {D : Den} {σ : Sig} {F : Nat} {r : Int}
def bits_OnesCount (F : Nat) (x_1 : (Kd .u64)) : Option Int :=
  (bits_OnesCount64 F (Kd.mk x_1.v : Kd .u64)).bind fun r_2 =>
  some r_2
theorem t52 (H : H52 D σ F) (x_1 : (Kd .u64)) (s : Nat → V) (hs : Facts [(0, (.int .u64 x_1.v))] s) (h : bits_OnesCount F x_1 = some r) : Run D σ (R52 r) (.run A52 []) s := by
  unfold bits_OnesCount at h
  have h0 := hs
  refine .seq ?_
  refine run_reg ?_
  refine e_end ?_
  refine g_v0 (.int .i64 0) rfl rfl ?_
  refine g_end ?_
  refine e_end ?_
  refine renew [(0, (.int .u64 x_1.v)), (2, (.int .i64 0))] ⟨h0, rfl⟩ ?_
  rintro s ⟨h0, h2⟩
  refine .nsq ?_
  refine .seq ?_
  refine run_condF rfl ?_
  refine .skip ?_
  refine .nsq ?_
  refine .seq ?_
  refine run_reg ?_
  refine e_end ?_
  refine g_v1 (t := 0) (u := (.int .u64 x_1.v)) (.int .u64 x_1.v) h0 rfl rfl ?_
  obtain ⟨r_2, E_r_2, h⟩ := bind_some h
  refine g_call (m := 0) (al := false) (r := (Enc.enc (r_2 : Int))) [Enc.enc ((Kd.mk x_1.v : Kd .u64) : (Kd .u64))] (ta_cons (v := (.int .u64 x_1.v)) rfl rfl rfl ta_nil) (H.c103 _ _ E_r_2) H.g103 rfl rfl rfl rfl ?_
  refine g_v1 (t := 7) (u := (.int .i64 r_2)) (.int .i64 r_2) rfl rfl rfl ?_
  refine g_end ?_
  refine e_end ?_
  refine renew [(2, (.int .i64 r_2))] rfl ?_
  rintro s h2
  refine .nsq ?_
  refine .ret ?_
  have hr := Option.some.inj h
  subst hr
  exact rrA (res_tmp h2) rfl
end
def e52 (F : Nat) : Ent := ⟨52, da (fun (x : ((Kd .u64) × Unit)) => bits_OnesCount F x.1) (fun (r : Int) => (Enc.enc (r : Int))), 0, false, selF []⟩
theorem p52 {F : Nat} {x0 : (Kd .u64)} {r : Int} (h : bits_OnesCount F x0 = some r) : (e52 F).den [Enc.enc x0] = some (Enc.enc (r : Int)) := da_put (f := fun (x : ((Kd .u64) × Unit)) => bits_OnesCount F x.1) (t := fun (r : Int) => (Enc.enc (r : Int))) (x0, ()) h
theorem o52 {D : Den} {σ : Sig} {F : Nat} (hF : Fits2 Try.prog D σ) (H : H52 D σ F) : (e52 F).Ok Try.prog := by
  refine ok_of (f := 52) (show unk 52 = 52 from rfl) (fun args r h => ?_) ⟨Try.f52, Try.func52, rfl, rfl⟩
  obtain ⟨⟨x0, _⟩, y, rfl, hy, rfl⟩ := da_open h
  exact contract_run hF (by kernel_rfl) Try.func52 rfl c52 (show 1 ≤ Try.f52.ntmps by decide) (t52 H x0 _ rfl hy)
/- loop.example/g01109/impl.IsRanking$2 -/
def A77_1 : AC := (AC.seq (AC.reg [] [(I.mk (some 4) none false (X.v (A.mov (O.t 0)))), (I.mk (some 5) none false (X.v (A.load Sh.s (O.t 1)))), (I.mk (some 6) none false (X.v (A.bin BinOp.and (O.t 4) (O.t 5)))), (I.mk (some 7) none false (X.v (A.conv IntKind.u64 (O.t 6)))), (I.mk (some 8) none false (X.call (O.k (V.fn 52 [] [])) [(O.t 7)])), (I.mk (some 9) none false (X.v (A.bin BinOp.gtr (O.t 8) (O.k (V.int IntKind.i64 (Int.ofNat 1)))))), (I.mk (some 3) none false (X.v (A.mov (O.t 9))))] []) AC.ret)
def A77 : AC := (AC.seq (AC.reg [] [(I.mk (some 3) none false (X.v (A.mov (O.k (V.bool false)))))] []) A77_1)
def an77 : List An := []
theorem c77 : cC Try.prog Try.f77.ntmps an77 (Try.f77.body.getD .skip) = some A77 := by kernel_rfl
structure H77 (D : Den) (σ : Sig) (F : Nat) : Prop where
  c52 : ∀ (x0 : (Kd .u64)) r, bits_OnesCount F x0 = some r → D 52 [Enc.enc x0] = some (Enc.enc (r : Int))
  g52 : σ 52 = some (0, false)
abbrev R77 (r : Bool) : (Nat → V) → Prop := RR Try.prog [.tmp 3] 0 false (Enc.enc (r : Bool))
section
variable {D : Den} {σ : Sig} {F : Nat} {r : Bool}
def i_IsRanking_2 (F : Nat) (part_1 : Int) (rf_2 : (Rf Int)) : Option Bool :=
  (bits_OnesCount F (Kd.mk (IntKind.u64.wrap (iand .i64 part_1 rf_2.v)) : Kd .u64)).bind fun r_3 =>
  some (decide (r_3 > 1))
theorem t77 (H : H77 D σ F) (part_1 : Int) (rf_2 : (Rf Int)) (s : Nat → V) (hs : Facts [(0, (.int .i64 part_1)), (1, (.ref .sh 0 [] (.int .i64 rf_2.v)))] s) (h : i_IsRanking_2 F part_1 rf_2 = some r) : Run D σ (R77 r) (.run A77 []) s := by
  unfold i_IsRanking_2 at h
  obtain ⟨h0, h1⟩ := hs
  refine .seq ?_
  refine run_reg ?_
  refine e_end ?_
  refine g_v0 (.bool false) rfl rfl ?_
  refine g_end ?_
  refine e_end ?_
  refine renew [(0, (.int .i64 part_1)), (1, (.ref .sh 0 [] (.int .i64 rf_2.v))), (3, (.bool false))] ⟨h0, h1, rfl⟩ ?_
  rintro s ⟨h0, h1, h3⟩
  refine .nsq ?_
  refine .seq ?_
  refine run_reg ?_
  refine e_end ?_
  refine g_v1 (t := 0) (u := (.int .i64 part_1)) (.int .i64 part_1) h0 rfl rfl ?_
  refine g_v1 (t := 1) (u := (.ref .sh 0 [] (.int .i64 rf_2.v))) (.int .i64 rf_2.v) h1 rfl rfl ?_
  refine g_v2 (t1 := 4) (t2 := 5) (u1 := (.int .i64 part_1)) (u2 := (.int .i64 rf_2.v)) (.int .i64 (iand .i64 part_1 rf_2.v)) rfl rfl rfl rfl ?_
  refine g_v1 (t := 6) (u := (.int .i64 (iand .i64 part_1 rf_2.v))) (.int .u64 (IntKind.u64.wrap (iand .i64 part_1 rf_2.v))) rfl rfl rfl ?_
  obtain ⟨r_3, E_r_3, h⟩ := bind_some h
  refine g_call (m := 0) (al := false) (r := (Enc.enc (r_3 : Int))) [Enc.enc ((Kd.mk (IntKind.u64.wrap (iand .i64 part_1 rf_2.v)) : Kd .u64) : (Kd .u64))] (ta_cons (v := (.int .u64 (IntKind.u64.wrap (iand .i64 part_1 rf_2.v)))) rfl rfl rfl ta_nil) (H.c52 _ _ E_r_3) H.g52 rfl rfl rfl rfl ?_
  refine g_v1 (t := 8) (u := (.int .i64 r_3)) (.bool (decide (r_3 > 1))) rfl rfl rfl ?_
  refine g_v1 (t := 9) (u := (.bool (decide (r_3 > 1)))) (.bool (decide (r_3 > 1))) rfl rfl rfl ?_
  refine g_end ?_
  refine e_end ?_
  refine renew [(3, (.bool (decide (r_3 > 1))))] rfl ?_
  rintro s h3
  refine .nsq ?_
  refine .ret ?_
  have hr := Option.some.inj h
  subst hr
  exact rrA (res_tmp h3) rfl
end
def e77 (F : Nat) : Ent := ⟨77, da (fun (x : (Int × (Rf Int) × Unit)) => i_IsRanking_2 F x.1 x.2.1) (fun (r : Bool) => (Enc.enc (r : Bool))), 0, false, selF []⟩
theorem p77 {F : Nat} {x0 : Int} {x1 : (Rf Int)} {r : Bool} (h : i_IsRanking_2 F x0 x1 = some r) : (e77 F).den [Enc.enc x0, Arg.arg x1] = some (Enc.enc (r : Bool)) := da_put (f := fun (x : (Int × (Rf Int) × Unit)) => i_IsRanking_2 F x.1 x.2.1) (t := fun (r : Bool) => (Enc.enc (r : Bool))) (x0, x1, ()) h
theorem o77 {D : Den} {σ : Sig} {F : Nat} (hF : Fits2 Try.prog D σ) (H : H77 D σ F) : (e77 F).Ok Try.prog := by
  refine ok_of (f := 77) (show unk 77 = 77 from rfl) (fun args r h => ?_) ⟨Try.f77, Try.func77, rfl, rfl⟩
  obtain ⟨⟨x0, x1, _⟩, y, rfl, hy, rfl⟩ := da_open h
  exact contract_run hF (by kernel_rfl) Try.func77 rfl c77 (show 2 ≤ Try.f77.ntmps by decide) (t77 H x0 x1 _ ⟨rfl, rfl⟩ hy)
/- slices.IndexFunc[[]int,int] -/
def A118s2_5 : AC := (AC.cond (O.t 16) (AC.seq (AC.reg [] [(I.mk (some 17) none false (X.v (A.mov (O.t 5)))), (I.mk (some 4) none false (X.v (A.mov (O.t 17))))] []) AC.ret) AC.skip)
def A118s2_4 : AC := (AC.seq (AC.reg [] [(I.mk (some 11) none false (X.v (A.mov (O.t 1)))), (I.mk (some 12) none false (X.v (A.mov (O.t 0)))), (I.mk (some 13) none false (X.v (A.mov (O.t 5)))), (I.mk (some 14) none false (X.v (A.idx (O.t 12) (O.t 13) 1))), (I.mk (some 15) none false (X.v (A.load Sh.s (O.t 14)))), (I.mk (some 16) none false (X.call (O.t 11) [(O.t 15)]))] []) A118s2_5)
def A118s2_6 : AC := (AC.reg [] [(I.mk (some 18) none false (X.v (A.bin BinOp.add (O.t 8) (O.k (V.int IntKind.i64 (Int.ofNat 1)))))), (I.mk (some 8) none false (X.v (A.mov (O.t 18))))] [])
def A118s2_3 : AC := (AC.seq (AC.block 1 (AC.seq (AC.reg [] [(I.mk (some 10) none false (X.v (A.mov (O.t 8)))), (I.mk (some 5) none false (X.v (A.mov (O.t 10))))] []) A118s2_4)) A118s2_6)
def A118s2_2 : AC := (AC.seq (AC.cond (O.t 9) AC.skip (AC.exit 0)) A118s2_3)
def A118s2_1 : AC := (AC.seq (AC.reg [] [(I.mk (some 9) none false (X.v (A.bin BinOp.lss (O.t 8) (O.t 7))))] []) A118s2_2)
def A118s2_7 : AC := (AC.seq (AC.reg [] [(I.mk (some 4) none false (X.v (A.mov (O.k (V.int IntKind.i64 (Int.negSucc 0))))))] []) AC.ret)
def A118s2_9 : AC := (AC.block 0 (AC.loop A118s2_1))
def A118s2_8 : AC := (AC.seq (AC.seq (AC.reg [] [(I.mk (some 6) none false (X.v (A.mov (O.t 0)))), (I.mk (some 7) none false (X.v (A.len (O.t 6)))), (I.mk (some 8) none false (X.v (A.mov (O.k (V.int IntKind.i64 (Int.ofNat 0))))))] []) A118s2_9) A118s2_7)
def A118s2 : AC := (AC.seq (AC.reg [] [(I.mk (some 4) none false (X.v (A.mov (O.k (V.int IntKind.i64 (Int.ofNat 0))))))] []) A118s2_8)
def an118s2 : List An := []
theorem c118s2 : cC Try.prog Try.f118.ntmps an118s2 (Try.f118.body.getD .skip) = some A118s2 := by kernel_rfl
structure H118s2 (D : Den) (σ : Sig) (F : Nat) : Prop where
  c77 : ∀ (x0 : Int) (x1 : (Rf Int)) r, i_IsRanking_2 F x0 x1 = some r → D 77 [Enc.enc x0, Arg.arg x1] = some (Enc.enc (r : Bool))
  g77 : σ 77 = some (0, false)
abbrev R118s2 (r : Int) : (Nat → V) → Prop := RR Try.prog [.tmp 4] 0 false (Enc.enc (r : Int))
section
variable {D : Den} {σ : Sig} {F : Nat} {r : Int}
def slices_IndexFunc_of_i_IsRanking_2_l1 (F : Nat) (s_1 : (List Int)) (f_2 : (Cl 77 Unit ((Rf Int) × Unit)))  : Nat → Int → Option Int
  | 0, _ => none
  | k + 1, t8_5 =>
    bif decide (t8_5 < (s_1.length : Int)) then
      (idx s_1 t8_5).bind fun e_8 =>
      (i_IsRanking_2 F e_8 f_2.env.1).bind fun r_9 =>
      bif r_9 then
        some t8_5
      else
        (slices_IndexFunc_of_i_IsRanking_2_l1 F s_1 f_2 k) (w64 (t8_5 + 1))
    else
      some (-1)
theorem t_f118s2_l1 (H : H118s2 D σ F) (s_1 : (List Int)) (f_2 : (Cl 77 Unit ((Rf Int) × Unit)))  : ∀ (k : Nat) (t8_5 : Int) (s : Nat → V), Facts [(0, (Enc.enc (s_1 : List Int))), (1, (.fn 77 [] [(.ref .sh 0 [] (.int .i64 f_2.env.1.v))])), (4, (.int .i64 0)), (7, (.int .i64 (s_1.length : Int))), (8, (.int .i64 t8_5))] s → slices_IndexFunc_of_i_IsRanking_2_l1 F s_1 f_2 k t8_5 = some r → Run D σ (R118s2 r) (.run A118s2_1 [.lp A118s2_1, .bk 0, .sq A118s2_7]) s := by
  intro k
  induction k with
  | zero => intro t8_5 s _ h; exact nomatch (h : (none : Option _) = some r)
  | succ k ih =>
    intro t8_5 s hs h
    rw [slices_IndexFunc_of_i_IsRanking_2_l1] at h
    obtain ⟨h0, h1, h4, h7, h8⟩ := hs
    refine .seq ?_
    refine run_reg ?_
    refine e_end ?_
    refine g_v2 (t1 := 8) (t2 := 7) (u1 := (.int .i64 t8_5)) (u2 := (.int .i64 (s_1.length : Int))) (.bool (decide (t8_5 < (s_1.length : Int)))) h8 h7 rfl rfl ?_
    refine g_end ?_
    refine e_end ?_
    refine renew [(0, (Enc.enc (s_1 : List Int))), (1, (.fn 77 [] [(.ref .sh 0 [] (.int .i64 f_2.env.1.v))])), (4, (.int .i64 0)), (7, (.int .i64 (s_1.length : Int))), (8, (.int .i64 t8_5)), (9, (.bool (decide (t8_5 < (s_1.length : Int)))))] ⟨h0, h1, h4, h7, h8, rfl⟩ ?_
    rintro s ⟨h0, h1, h4, h7, h8, h9⟩
    refine .nsq ?_
    refine .seq ?_
    refine run_cond (t := decide (t8_5 < (s_1.length : Int))) h9 h (fun h => ?_) (fun h => ?_)
    · refine .skip ?_
      refine .nsq ?_
      refine .seq ?_
      refine .block ?_
      refine .seq ?_
      refine run_reg ?_
      refine e_end ?_
      refine g_v1 (t := 8) (u := (.int .i64 t8_5)) (.int .i64 t8_5) h8 rfl rfl ?_
      refine g_v1 (t := 10) (u := (.int .i64 t8_5)) (.int .i64 t8_5) rfl rfl rfl ?_
      refine g_end ?_
      refine e_end ?_
      refine renew [(0, (Enc.enc (s_1 : List Int))), (1, (.fn 77 [] [(.ref .sh 0 [] (.int .i64 f_2.env.1.v))])), (4, (.int .i64 0)), (5, (.int .i64 t8_5)), (7, (.int .i64 (s_1.length : Int))), (8, (.int .i64 t8_5))] ⟨h0, h1, h4, rfl, h7, h8⟩ ?_
      rintro s ⟨h0, h1, h4, h5, h7, h8⟩
      refine .nsq ?_
      refine .seq ?_
      refine run_reg ?_
      refine e_end ?_
      refine g_v1 (t := 1) (u := (.fn 77 [] [(.ref .sh 0 [] (.int .i64 f_2.env.1.v))])) (.fn 77 [] [(.ref .sh 0 [] (.int .i64 f_2.env.1.v))]) h1 rfl rfl ?_
      refine g_v1 (t := 0) (u := (Enc.enc (s_1 : List Int))) (Enc.enc (s_1 : List Int)) h0 rfl rfl ?_
      refine g_v1 (t := 5) (u := (.int .i64 t8_5)) (.int .i64 t8_5) h5 rfl rfl ?_
      obtain ⟨e_8, E_e_8, h⟩ := bind_some h
      refine g_v (.ref .sh 0 [] (.int .i64 e_8)) (ev_idx (t := .sh) (lo := 0) (xs := s_1) rfl rfl E_e_8 rfl rfl) ?_
      refine g_v1 (t := 14) (u := (.ref .sh 0 [] (.int .i64 e_8))) (.int .i64 e_8) rfl rfl rfl ?_
      obtain ⟨r_9, E_r_9, h⟩ := bind_some h
      refine g_callF (m := 0) (al := false) (r := (Enc.enc (r_9 : Bool))) (fs := []) (env := [(.ref .sh 0 [] (.int .i64 f_2.env.1.v))]) (us := []) (ws := [Arg.arg (f_2.env.1 : (Rf Int))]) rfl erases_nil (erases_cons (erase_ref rfl) erases_nil) rfl [Enc.enc (e_8 : Int)] (ta_cons (v := (.int .i64 e_8)) rfl rfl rfl ta_nil) (H.c77 _ _ _ E_r_9) H.g77 rfl rfl rfl rfl ?_
      refine g_end ?_
      refine e_end ?_
      refine renew [(0, (Enc.enc (s_1 : List Int))), (1, (.fn 77 [] [(.ref .sh 0 [] (.int .i64 f_2.env.1.v))])), (4, (.int .i64 0)), (5, (.int .i64 t8_5)), (7, (.int .i64 (s_1.length : Int))), (8, (.int .i64 t8_5)), (16, (.bool r_9))] ⟨h0, h1, h4, h5, h7, h8, rfl⟩ ?_
      rintro s ⟨h0, h1, h4, h5, h7, h8, h16⟩
      refine .nsq ?_
      refine run_cond (t := r_9) h16 h (fun h => ?_) (fun h => ?_)
      · refine .seq ?_
        refine run_reg ?_
        refine e_end ?_
        refine g_v1 (t := 5) (u := (.int .i64 t8_5)) (.int .i64 t8_5) h5 rfl rfl ?_
        refine g_v1 (t := 17) (u := (.int .i64 t8_5)) (.int .i64 t8_5) rfl rfl rfl ?_
        refine g_end ?_
        refine e_end ?_
        refine renew [(0, (Enc.enc (s_1 : List Int))), (1, (.fn 77 [] [(.ref .sh 0 [] (.int .i64 f_2.env.1.v))])), (4, (.int .i64 t8_5)), (7, (.int .i64 (s_1.length : Int))), (8, (.int .i64 t8_5))] ⟨h0, h1, rfl, h7, h8⟩ ?_
        rintro s ⟨h0, h1, h4, h7, h8⟩
        refine .nsq ?_
        refine .ret ?_
        have hr := Option.some.inj h
        subst hr
        exact rrA (res_tmp h4) rfl
      · refine .skip ?_
        refine .nbk ?_
        refine .nsq ?_
        refine run_reg ?_
        refine e_end ?_
        refine g_v1 (t := 8) (u := (.int .i64 t8_5)) (.int .i64 (w64 (t8_5 + 1))) h8 rfl rfl ?_
        refine g_v1 (t := 18) (u := (.int .i64 (w64 (t8_5 + 1)))) (.int .i64 (w64 (t8_5 + 1))) rfl rfl rfl ?_
        refine g_end ?_
        refine e_end ?_
        refine renew [(0, (Enc.enc (s_1 : List Int))), (1, (.fn 77 [] [(.ref .sh 0 [] (.int .i64 f_2.env.1.v))])), (4, (.int .i64 0)), (7, (.int .i64 (s_1.length : Int))), (8, (.int .i64 (w64 (t8_5 + 1))))] ⟨h0, h1, h4, h7, rfl⟩ ?_
        rintro s ⟨h0, h1, h4, h7, h8⟩
        refine .nlp ?_
        exact ih (w64 (t8_5 + 1)) _ ⟨h0, h1, h4, h7, h8⟩ h
    · refine .exit ?_
      refine .esq ?_
      refine .elp ?_
      refine .ebk ?_
      refine .nsq ?_
      refine .seq ?_
      refine run_reg ?_
      refine e_end ?_
      refine g_v0 (.int .i64 (-1)) rfl rfl ?_
      refine g_end ?_
      refine e_end ?_
      refine renew [(4, (.int .i64 (-1)))] rfl ?_
      rintro s h4
      refine .nsq ?_
      refine .ret ?_
      have hr := Option.some.inj h
      subst hr
      exact rrA (res_tmp h4) rfl
def slices_IndexFunc_of_i_IsRanking_2 (F : Nat) (s_1 : (List Int)) (f_2 : (Cl 77 Unit ((Rf Int) × Unit))) : Option Int :=
  slices_IndexFunc_of_i_IsRanking_2_l1 F s_1 f_2 F 0
theorem t118s2 (H : H118s2 D σ F) (s_1 : (List Int)) (f_2 : (Cl 77 Unit ((Rf Int) × Unit))) (s : Nat → V) (hs : Facts [(0, (Enc.enc (s_1 : List Int))), (1, (.fn 77 [] [(.ref .sh 0 [] (.int .i64 f_2.env.1.v))]))] s) (h : slices_IndexFunc_of_i_IsRanking_2 F s_1 f_2 = some r) : Run D σ (R118s2 r) (.run A118s2 []) s := by
  unfold slices_IndexFunc_of_i_IsRanking_2 at h
  obtain ⟨h0, h1⟩ := hs
  refine .seq ?_
  refine run_reg ?_
  refine e_end ?_
  refine g_v0 (.int .i64 0) rfl rfl ?_
  refine g_end ?_
  refine e_end ?_
  refine renew [(0, (Enc.enc (s_1 : List Int))), (1, (.fn 77 [] [(.ref .sh 0 [] (.int .i64 f_2.env.1.v))])), (4, (.int .i64 0))] ⟨h0, h1, rfl⟩ ?_
  rintro s ⟨h0, h1, h4⟩
  refine .nsq ?_
  refine .seq ?_
  refine .seq ?_
  refine run_reg ?_
  refine e_end ?_
  refine g_v1 (t := 0) (u := (Enc.enc (s_1 : List Int))) (Enc.enc (s_1 : List Int)) h0 rfl rfl ?_
  refine g_v (.int .i64 (s_1.length : Int)) (ev_len (xs := s_1) rfl) ?_
  refine g_v0 (.int .i64 0) rfl rfl ?_
  refine g_end ?_
  refine e_end ?_
  refine renew [(0, (Enc.enc (s_1 : List Int))), (1, (.fn 77 [] [(.ref .sh 0 [] (.int .i64 f_2.env.1.v))])), (4, (.int .i64 0)), (7, (.int .i64 (s_1.length : Int))), (8, (.int .i64 0))] ⟨h0, h1, h4, rfl, rfl⟩ ?_
  rintro s ⟨h0, h1, h4, h7, h8⟩
  refine .nsq ?_
  refine .block ?_
  refine .loop ?_
  exact t_f118s2_l1 H s_1 f_2 F 0 _ ⟨h0, h1, h4, h7, h8⟩ h
end
def e118s2 (F : Nat) : Ent := ⟨118, da (fun (x : ((List Int) × (Cl 77 Unit ((Rf Int) × Unit)) × Unit)) => slices_IndexFunc_of_i_IsRanking_2 F x.1 x.2.1) (fun (r : Int) => (Enc.enc (r : Int))), 0, false, selF [(1, 77)]⟩
theorem p118s2 {F : Nat} {x0 : (List Int)} {x1 : (Cl 77 Unit ((Rf Int) × Unit))} {r : Int} (h : slices_IndexFunc_of_i_IsRanking_2 F x0 x1 = some r) : (e118s2 F).den [Enc.enc x0, Arg.arg x1] = some (Enc.enc (r : Int)) := da_put (f := fun (x : ((List Int) × (Cl 77 Unit ((Rf Int) × Unit)) × Unit)) => slices_IndexFunc_of_i_IsRanking_2 F x.1 x.2.1) (t := fun (r : Int) => (Enc.enc (r : Int))) (x0, x1, ()) h
theorem o118s2 {D : Den} {σ : Sig} {F : Nat} (hF : Fits2 Try.prog D σ) (H : H118s2 D σ F) : (e118s2 F).Ok Try.prog := by
  refine ok_of (f := 118) (show unk 118 = 118 from rfl) (fun args r h => ?_) ⟨Try.f118, Try.func118, rfl, rfl⟩
  obtain ⟨⟨x0, x1, _⟩, y, rfl, hy, rfl⟩ := da_open h
  exact contract_run hF (by kernel_rfl) Try.func118 rfl c118s2 (show 2 ≤ Try.f118.ntmps by decide) (t118s2 H x0 x1 _ ⟨rfl, rfl⟩ hy)
/- slices.ContainsFunc[[]int,int] -/
def A74s2_1 : AC := (AC.seq (AC.reg [] [(I.mk (some 5) none false (X.v (A.mov (O.t 0)))), (I.mk (some 6) none false (X.v (A.mov (O.t 1)))), (I.mk (some 7) none false (X.call (O.k (V.fn 118 [] [])) [(O.t 5), (O.t 6)])), (I.mk (some 8) none false (X.v (A.bin BinOp.geq (O.t 7) (O.k (V.int IntKind.i64 (Int.ofNat 0)))))), (I.mk (some 4) none false (X.v (A.mov (O.t 8))))] []) AC.ret)
def A74s2 : AC := (AC.seq (AC.reg [] [(I.mk (some 4) none false (X.v (A.mov (O.k (V.bool false)))))] []) A74s2_1)
def an74s2 : List An := []
theorem c74s2 : cC Try.prog Try.f74.ntmps an74s2 (Try.f74.body.getD .skip) = some A74s2 := by kernel_rfl
structure H74s2 (D : Den) (σ : Sig) (F : Nat) : Prop where
  c118s2 : ∀ (x0 : (List Int)) (x1 : (Cl 77 Unit ((Rf Int) × Unit))) r, slices_IndexFunc_of_i_IsRanking_2 F x0 x1 = some r → D 118 [Enc.enc x0, Arg.arg x1] = some (Enc.enc (r : Int))
  g118s2 : σ 118 = some (0, false)
abbrev R74s2 (r : Bool) : (Nat → V) → Prop := RR Try.prog [.tmp 4] 0 false (Enc.enc (r : Bool))
section
variable {D : Den} {σ : Sig} {F : Nat} {r : Bool}
def slices_ContainsFunc_of_i_IsRanking_2 (F : Nat) (s_1 : (List Int)) (f_2 : (Cl 77 Unit ((Rf Int) × Unit))) : Option Bool :=
  (slices_IndexFunc_of_i_IsRanking_2 F s_1 f_2).bind fun r_3 =>
  some (decide (r_3 ≥ 0))
theorem t74s2 (H : H74s2 D σ F) (s_1 : (List Int)) (f_2 : (Cl 77 Unit ((Rf Int) × Unit))) (s : Nat → V) (hs : Facts [(0, (Enc.enc (s_1 : List Int))), (1, (.fn 77 [] [(.ref .sh 0 [] (.int .i64 f_2.env.1.v))]))] s) (h : slices_ContainsFunc_of_i_IsRanking_2 F s_1 f_2 = some r) : Run D σ (R74s2 r) (.run A74s2 []) s := by
  unfold slices_ContainsFunc_of_i_IsRanking_2 at h
  obtain ⟨h0, h1⟩ := hs
  refine .seq ?_
  refine run_reg ?_
  refine e_end ?_
  refine g_v0 (.bool false) rfl rfl ?_
  refine g_end ?_
  refine e_end ?_
  refine renew [(0, (Enc.enc (s_1 : List Int))), (1, (.fn 77 [] [(.ref .sh 0 [] (.int .i64 f_2.env.1.v))])), (4, (.bool false))] ⟨h0, h1, rfl⟩ ?_
  rintro s ⟨h0, h1, h4⟩
  refine .nsq ?_
  refine .seq ?_
  refine run_reg ?_
  refine e_end ?_
  refine g_v1 (t := 0) (u := (Enc.enc (s_1 : List Int))) (Enc.enc (s_1 : List Int)) h0 rfl rfl ?_
  refine g_v1 (t := 1) (u := (.fn 77 [] [(.ref .sh 0 [] (.int .i64 f_2.env.1.v))])) (.fn 77 [] [(.ref .sh 0 [] (.int .i64 f_2.env.1.v))]) h1 rfl rfl ?_
  obtain ⟨r_3, E_r_3, h⟩ := bind_some h
  refine g_call (m := 0) (al := false) (r := (Enc.enc (r_3 : Int))) [Enc.enc (s_1 : (List Int)), Arg.arg (f_2 : (Cl 77 Unit ((Rf Int) × Unit)))] (ta_cons (v := (Enc.enc (s_1 : List Int))) rfl rfl (Enc.erase_enc (s_1 : (List Int))) (ta_cons (v := (.fn 77 [] [(.ref .sh 0 [] (.int .i64 f_2.env.1.v))])) rfl rfl (erase_fn erases_nil (erases_cons (erase_ref rfl) erases_nil)) ta_nil)) (H.c118s2 _ _ _ E_r_3) H.g118s2 rfl rfl rfl rfl ?_
  refine g_v1 (t := 7) (u := (.int .i64 r_3)) (.bool (decide (r_3 ≥ 0))) rfl rfl rfl ?_
  refine g_v1 (t := 8) (u := (.bool (decide (r_3 ≥ 0)))) (.bool (decide (r_3 ≥ 0))) rfl rfl rfl ?_
  refine g_end ?_
  refine e_end ?_
  refine renew [(4, (.bool (decide (r_3 ≥ 0))))] rfl ?_
  rintro s h4
  refine .nsq ?_
  refine .ret ?_
  have hr := Option.some.inj h
  subst hr
  exact rrA (res_tmp h4) rfl
end
def e74s2 (F : Nat) : Ent := ⟨74, da (fun (x : ((List Int) × (Cl 77 Unit ((Rf Int) × Unit)) × Unit)) => slices_ContainsFunc_of_i_IsRanking_2 F x.1 x.2.1) (fun (r : Bool) => (Enc.enc (r : Bool))), 0, false, selF [(1, 77)]⟩
theorem p74s2 {F : Nat} {x0 : (List Int)} {x1 : (Cl 77 Unit ((Rf Int) × Unit))} {r : Bool} (h : slices_ContainsFunc_of_i_IsRanking_2 F x0 x1 = some r) : (e74s2 F).den [Enc.enc x0, Arg.arg x1] = some (Enc.enc (r : Bool)) := da_put (f := fun (x : ((List Int) × (Cl 77 Unit ((Rf Int) × Unit)) × Unit)) => slices_ContainsFunc_of_i_IsRanking_2 F x.1 x.2.1) (t := fun (r : Bool) => (Enc.enc (r : Bool))) (x0, x1, ()) h
theorem o74s2 {D : Den} {σ : Sig} {F : Nat} (hF : Fits2 Try.prog D σ) (H : H74s2 D σ F) : (e74s2 F).Ok Try.prog := by
  refine ok_of (f := 74) (show unk 74 = 74 from rfl) (fun args r h => ?_) ⟨Try.f74, Try.func74, rfl, rfl⟩
  obtain ⟨⟨x0, x1, _⟩, y, rfl, hy, rfl⟩ := da_open h
  exact contract_run hF (by kernel_rfl) Try.func74 rfl c74s2 (show 2 ≤ Try.f74.ntmps by decide) (t74s2 H x0 x1 _ ⟨rfl, rfl⟩ hy)
end Go.Zq
