/- Functions of the program as typed functions, and that the machine runs as they say (part 2). No further condition. -/
import Derived.Test.YtodihaaheneikaaK2
import Derived.Test.YtodihaaheneikaaProg
import Derived.Test.YtodihaaheneikaaChecked
import Derived.KernelRfl
import Derived.Test.YtodihaaheneikaaG1
set_option linter.unusedVariables false
set_option linter.unusedSimpArgs false
/- Functions of the program, as typed functions, and that the machine runs as they say. -/
namespace Go.Zq
open Go.Proofs
/- loop.example/g01109/spec.l6Decomposes -/
def A52_2 : AC := (AC.cond (O.t 25) AC.skip (AC.exit 2))
def A52_4 : AC := (AC.cond (O.t 42) (AC.seq (AC.reg [] [(I.mk (some 4) none false (X.v (A.mov (O.k (V.bool false)))))] []) AC.ret) AC.skip)
def A52_5 : AC := (AC.reg [] [(I.mk (some 26) none false (X.v (A.mov (O.t 6)))), (I.mk (some 27) none false (X.v (A.bin BinOp.add (O.t 26) (O.k (V.int IntKind.i64 (Int.ofNat 1)))))), (I.mk (some 6) none false (X.v (A.mov (O.t 27))))] [])
def A52_3 : AC := (AC.seq (AC.block 3 (AC.seq (AC.reg [] [(I.mk (some 28) none false (X.v (A.mov (O.t 1)))), (I.mk (some 29) none false (X.v (A.fld (O.t 2) 1 1))), (I.mk (some 30) none false (X.v (A.load Sh.p (O.t 29)))), (I.mk (some 31) none false (X.v (A.mov (O.t 6)))), (I.mk (some 32) none false (X.v (A.idx (O.t 30) (O.t 31) 2))), (I.mk (some 33) none false (X.v (A.idxA (O.t 32) (O.k (V.int IntKind.i64 (Int.ofNat 0))) 2 1))), (I.mk (some 34) none false (X.v (A.load Sh.s (O.t 33)))), (I.mk (some 35) none false (X.v (A.fld (O.t 2) 1 1))), (I.mk (some 36) none false (X.v (A.load Sh.p (O.t 35)))), (I.mk (some 37) none false (X.v (A.mov (O.t 6)))), (I.mk (some 38) none false (X.v (A.idx (O.t 36) (O.t 37) 2))), (I.mk (some 39) none false (X.v (A.idxA (O.t 38) (O.k (V.int IntKind.i64 (Int.ofNat 1))) 2 1))), (I.mk (some 40) none false (X.v (A.load Sh.s (O.t 39)))), (I.mk (some 41) none false (X.call (O.k (V.fn 80 [] [])) [(O.t 28), (O.t 34), (O.t 40)])), (I.mk (some 42) none false (X.v (A.un UnOp.not (O.t 41))))] []) A52_4)) A52_5)
def A52_1 : AC := (AC.seq (AC.seq (AC.reg [] [(I.mk (some 21) none false (X.v (A.mov (O.t 6)))), (I.mk (some 22) none false (X.v (A.fld (O.t 2) 1 1))), (I.mk (some 23) none false (X.v (A.load Sh.p (O.t 22)))), (I.mk (some 24) none false (X.v (A.len (O.t 23)))), (I.mk (some 25) none false (X.v (A.bin BinOp.lss (O.t 21) (O.t 24))))] []) A52_2) A52_3)
def A52_6 : AC := (AC.seq (AC.reg [] [(I.mk (some 4) none false (X.v (A.mov (O.k (V.bool true)))))] []) AC.ret)
def A52_8 : AC := (AC.cond (O.t 14) AC.skip (AC.exit 0))
def A52_10 : AC := (AC.cond (O.t 20) (AC.seq (AC.reg [] [(I.mk (some 4) none false (X.v (A.mov (O.k (V.bool false)))))] []) AC.ret) AC.skip)
def A52_11 : AC := (AC.reg [] [(I.mk (some 15) none false (X.v (A.mov (O.t 5)))), (I.mk (some 16) none false (X.v (A.bin BinOp.add (O.t 15) (O.k (V.int IntKind.i64 (Int.ofNat 1)))))), (I.mk (some 5) none false (X.v (A.mov (O.t 16))))] [])
def A52_9 : AC := (AC.seq (AC.block 1 (AC.seq (AC.reg [] [(I.mk (some 17) none false (X.v (A.mov (O.t 1)))), (I.mk (some 18) none false (X.v (A.mov (O.t 5)))), (I.mk (some 19) none false (X.call (O.k (V.fn 79 [] [])) [(O.t 17), (O.t 18)])), (I.mk (some 20) none false (X.v (A.un UnOp.not (O.t 19))))] []) A52_10)) A52_11)
def A52_7 : AC := (AC.seq (AC.seq (AC.reg [] [(I.mk (some 11) none false (X.v (A.mov (O.t 5)))), (I.mk (some 12) none false (X.v (A.fld (O.t 2) 0 0))), (I.mk (some 13) none false (X.v (A.load Sh.s (O.t 12)))), (I.mk (some 14) none false (X.v (A.bin BinOp.lss (O.t 11) (O.t 13))))] []) A52_8) A52_9)
def A52_13 : AC := (AC.block 2 (AC.loop A52_1))
def A52_12 : AC := (AC.seq (AC.seq (AC.reg [] [(I.mk (some 6) none false (X.v (A.mov (O.k (V.int IntKind.i64 (Int.ofNat 0))))))] []) A52_13) A52_6)
def A52_15 : AC := (AC.cond (O.t 10) (AC.seq (AC.reg [] [(I.mk (some 4) none false (X.v (A.mov (O.k (V.bool false)))))] []) AC.ret) AC.skip)
def A52_17 : AC := (AC.block 0 (AC.loop A52_7))
def A52_16 : AC := (AC.seq (AC.seq (AC.reg [] [(I.mk (some 5) none false (X.v (A.mov (O.k (V.int IntKind.i64 (Int.ofNat 0))))))] []) A52_17) A52_12)
def A52_14 : AC := (AC.seq (AC.seq (AC.reg [] [(I.mk (some 7) none false (X.v (A.load (Sh.ag [Sh.s, Sh.p]) (O.t 2)))), (I.mk (some 8) none false (X.v (A.mov (O.t 1)))), (I.mk (some 9) none false (X.call (O.k (V.fn 78 [] [])) [(O.t 7), (O.t 8)])), (I.mk (some 10) none false (X.v (A.un UnOp.not (O.t 9))))] []) A52_15) A52_16)
def A52 : AC := (AC.seq (AC.reg [.clr [2]] [(I.mk (some 2) none false (X.box (O.t 0))), (I.mk (some 4) none false (X.v (A.mov (O.k (V.bool false)))))] []) A52_14)
def an52 : List An := [{ id := 0, pre := [.clr [2]], ep := [], lin := [], sp := [] }]
theorem c52 : cC Try.prog Try.f52.ntmps an52 (Try.f52.body.getD .skip) = some A52 := by kernel_rfl
structure H52 (D : Den) (σ : Sig) (F : Nat) : Prop where
  c78 : ∀ (x0 : (Int × (List (Int × Int)))) (x1 : (List (List Int))) r, s_l6Bags F x0 x1 = some r → D 78 [Enc.enc x0, Enc.enc x1] = some (Enc.enc (r : Bool))
  g78 : σ 78 = some (0, false)
  c79 : ∀ (x0 : (List (List Int))) (x1 : Int) r, s_l6Run F x0 x1 = some r → D 79 [Enc.enc x0, Enc.enc x1] = some (Enc.enc (r : Bool))
  g79 : σ 79 = some (0, false)
  c80 : ∀ (x0 : (List (List Int))) (x1 : Int) (x2 : Int) r, s_l6Together F x0 x1 x2 = some r → D 80 [Enc.enc x0, Enc.enc x1, Enc.enc x2] = some (Enc.enc (r : Bool))
  g80 : σ 80 = some (0, false)
abbrev R52 (r : Bool) : (Nat → V) → Prop := RR Try.prog [.tmp 4] 0 false (Enc.enc (r : Bool))
section
variable {D : Den} {σ : Sig} {F : Nat} {r : Bool}
def s_l6Decomposes_l1 (F : Nat) (bags_2 : (List (List Int))) (g_1 : (Int × (List (Int × Int))))  : Nat → Int → Option Bool
  | 0, _ => none
  | k + 1, i_11 =>
    bif decide (i_11 < (g_1.2.length : Int)) then
      (idx g_1.2 i_11).bind fun e_15 =>
      (idx g_1.2 i_11).bind fun e_16 =>
      (s_l6Together F bags_2 e_15.1 e_16.2).bind fun r_17 =>
      bif (!r_17) then
        some false
      else
        (s_l6Decomposes_l1 F bags_2 g_1 k) (w64 (i_11 + 1))
    else
      some true
theorem t_f52_l1 (H : H52 D σ F) (bags_2 : (List (List Int))) (g_1 : (Int × (List (Int × Int))))  : ∀ (k : Nat) (i_11 : Int) (s : Nat → V), Facts [(1, (Enc.enc (bags_2 : List (List Int)))), (2, (.ref (.bx 2) 0 [] (.agg [(.int .i64 g_1.1), (Enc.enc (g_1.2 : List (Int × Int)))]))), (4, (.bool false)), (6, (.int .i64 i_11))] s → s_l6Decomposes_l1 F bags_2 g_1 k i_11 = some r → Run D σ (R52 r) (.run A52_1 [.lp A52_1, .bk 2, .sq A52_6]) s := by
  intro k
  induction k with
  | zero => intro i_11 s _ h; exact nomatch (h : (none : Option _) = some r)
  | succ k ih =>
    intro i_11 s hs h
    rw [s_l6Decomposes_l1] at h
    obtain ⟨h1, h2, h4, h6⟩ := hs
    refine .seq ?_
    refine .seq ?_
    refine run_reg ?_
    refine e_end ?_
    refine g_v1 (t := 6) (u := (.int .i64 i_11)) (.int .i64 i_11) h6 rfl rfl ?_
    refine g_v1 (t := 2) (u := (.ref (.bx 2) 0 [] (.agg [(.int .i64 g_1.1), (Enc.enc (g_1.2 : List (Int × Int)))]))) (.ref (.bx 2) 0 [1] (Enc.enc (g_1.2 : List (Int × Int)))) h2 rfl rfl ?_
    refine g_v1 (t := 22) (u := (.ref (.bx 2) 0 [1] (Enc.enc (g_1.2 : List (Int × Int))))) (Enc.enc (g_1.2 : List (Int × Int))) rfl rfl rfl ?_
    refine g_v (.int .i64 (g_1.2.length : Int)) (ev_len (xs := g_1.2) rfl) ?_
    refine g_v2 (t1 := 21) (t2 := 24) (u1 := (.int .i64 i_11)) (u2 := (.int .i64 (g_1.2.length : Int))) (.bool (decide (i_11 < (g_1.2.length : Int)))) rfl rfl rfl rfl ?_
    refine g_end ?_
    refine e_end ?_
    refine renew [(1, (Enc.enc (bags_2 : List (List Int)))), (2, (.ref (.bx 2) 0 [] (.agg [(.int .i64 g_1.1), (Enc.enc (g_1.2 : List (Int × Int)))]))), (4, (.bool false)), (6, (.int .i64 i_11)), (25, (.bool (decide (i_11 < (g_1.2.length : Int)))))] ⟨h1, h2, h4, h6, rfl⟩ ?_
    rintro s ⟨h1, h2, h4, h6, h25⟩
    refine .nsq ?_
    refine run_cond (t := decide (i_11 < (g_1.2.length : Int))) h25 h (fun h => ?_) (fun h => ?_)
    · refine .skip ?_
      refine .nsq ?_
      refine .seq ?_
      refine .block ?_
      refine .seq ?_
      refine run_reg ?_
      refine e_end ?_
      refine g_v1 (t := 1) (u := (Enc.enc (bags_2 : List (List Int)))) (Enc.enc (bags_2 : List (List Int))) h1 rfl rfl ?_
      refine g_v1 (t := 2) (u := (.ref (.bx 2) 0 [] (.agg [(.int .i64 g_1.1), (Enc.enc (g_1.2 : List (Int × Int)))]))) (.ref (.bx 2) 0 [1] (Enc.enc (g_1.2 : List (Int × Int)))) h2 rfl rfl ?_
      refine g_v1 (t := 29) (u := (.ref (.bx 2) 0 [1] (Enc.enc (g_1.2 : List (Int × Int))))) (Enc.enc (g_1.2 : List (Int × Int))) rfl rfl rfl ?_
      refine g_v1 (t := 6) (u := (.int .i64 i_11)) (.int .i64 i_11) h6 rfl rfl ?_
      obtain ⟨e_15, E_e_15, h⟩ := bind_some h
      refine g_v (.ref .sh 0 [] (.agg [(.int .i64 e_15.1), (.int .i64 e_15.2)])) (ev_idx (t := .sh) (lo := 0) (xs := g_1.2) rfl rfl E_e_15 rfl rfl) ?_
      refine g_v1 (t := 32) (u := (.ref .sh 0 [] (.agg [(.int .i64 e_15.1), (.int .i64 e_15.2)]))) (.ref .sh 0 [0] (.int .i64 e_15.1)) rfl rfl rfl ?_
      refine g_v1 (t := 33) (u := (.ref .sh 0 [0] (.int .i64 e_15.1))) (.int .i64 e_15.1) rfl rfl rfl ?_
      refine g_v1 (t := 2) (u := (.ref (.bx 2) 0 [] (.agg [(.int .i64 g_1.1), (Enc.enc (g_1.2 : List (Int × Int)))]))) (.ref (.bx 2) 0 [1] (Enc.enc (g_1.2 : List (Int × Int)))) h2 rfl rfl ?_
      refine g_v1 (t := 35) (u := (.ref (.bx 2) 0 [1] (Enc.enc (g_1.2 : List (Int × Int))))) (Enc.enc (g_1.2 : List (Int × Int))) rfl rfl rfl ?_
      refine g_v1 (t := 6) (u := (.int .i64 i_11)) (.int .i64 i_11) h6 rfl rfl ?_
      obtain ⟨e_16, E_e_16, h⟩ := bind_some h
      refine g_v (.ref .sh 0 [] (.agg [(.int .i64 e_16.1), (.int .i64 e_16.2)])) (ev_idx (t := .sh) (lo := 0) (xs := g_1.2) rfl rfl E_e_16 rfl rfl) ?_
      refine g_v1 (t := 38) (u := (.ref .sh 0 [] (.agg [(.int .i64 e_16.1), (.int .i64 e_16.2)]))) (.ref .sh 0 [1] (.int .i64 e_16.2)) rfl rfl rfl ?_
      refine g_v1 (t := 39) (u := (.ref .sh 0 [1] (.int .i64 e_16.2))) (.int .i64 e_16.2) rfl rfl rfl ?_
      obtain ⟨r_17, E_r_17, h⟩ := bind_some h
      refine g_call (m := 0) (al := false) (r := (Enc.enc (r_17 : Bool))) [Enc.enc (bags_2 : (List (List Int))), Enc.enc (e_15.1 : Int), Enc.enc (e_16.2 : Int)] (ta_cons (v := (Enc.enc (bags_2 : List (List Int)))) rfl rfl (Enc.erase_enc (bags_2 : (List (List Int)))) (ta_cons (v := (.int .i64 e_15.1)) rfl rfl rfl (ta_cons (v := (.int .i64 e_16.2)) rfl rfl rfl ta_nil))) (H.c80 _ _ _ _ E_r_17) H.g80 rfl rfl rfl rfl ?_
      refine g_v1 (t := 41) (u := (.bool r_17)) (.bool (!r_17)) rfl rfl rfl ?_
      refine g_end ?_
      refine e_end ?_
      refine renew [(1, (Enc.enc (bags_2 : List (List Int)))), (2, (.ref (.bx 2) 0 [] (.agg [(.int .i64 g_1.1), (Enc.enc (g_1.2 : List (Int × Int)))]))), (4, (.bool false)), (6, (.int .i64 i_11)), (42, (.bool (!r_17)))] ⟨h1, h2, h4, h6, rfl⟩ ?_
      rintro s ⟨h1, h2, h4, h6, h42⟩
      refine .nsq ?_
      refine run_cond (t := (!r_17)) h42 h (fun h => ?_) (fun h => ?_)
      · refine .seq ?_
        refine run_reg ?_
        refine e_end ?_
        refine g_v0 (.bool false) rfl rfl ?_
        refine g_end ?_
        refine e_end ?_
        refine renew [(1, (Enc.enc (bags_2 : List (List Int)))), (2, (.ref (.bx 2) 0 [] (.agg [(.int .i64 g_1.1), (Enc.enc (g_1.2 : List (Int × Int)))]))), (4, (.bool false)), (6, (.int .i64 i_11))] ⟨h1, h2, rfl, h6⟩ ?_
        rintro s ⟨h1, h2, h4, h6⟩
        refine .nsq ?_
        refine .ret ?_
        have hr := Option.some.inj h
        subst hr
        exact rrA (res_tmp h4) rfl
      · refine .skip ?_
        refine .nbk ?_
        refine .nsq ?_
        refine run_reg ?_
        refine e_end ?_
        refine g_v1 (t := 6) (u := (.int .i64 i_11)) (.int .i64 i_11) h6 rfl rfl ?_
        refine g_v1 (t := 26) (u := (.int .i64 i_11)) (.int .i64 (w64 (i_11 + 1))) rfl rfl rfl ?_
        refine g_v1 (t := 27) (u := (.int .i64 (w64 (i_11 + 1)))) (.int .i64 (w64 (i_11 + 1))) rfl rfl rfl ?_
        refine g_end ?_
        refine e_end ?_
        refine renew [(1, (Enc.enc (bags_2 : List (List Int)))), (2, (.ref (.bx 2) 0 [] (.agg [(.int .i64 g_1.1), (Enc.enc (g_1.2 : List (Int × Int)))]))), (4, (.bool false)), (6, (.int .i64 (w64 (i_11 + 1))))] ⟨h1, h2, h4, rfl⟩ ?_
        rintro s ⟨h1, h2, h4, h6⟩
        refine .nlp ?_
        exact ih (w64 (i_11 + 1)) _ ⟨h1, h2, h4, h6⟩ h
    · refine .exit ?_
      refine .esq ?_
      refine .elp ?_
      refine .ebk ?_
      refine .nsq ?_
      refine .seq ?_
      refine run_reg ?_
      refine e_end ?_
      refine g_v0 (.bool true) rfl rfl ?_
      refine g_end ?_
      refine e_end ?_
      refine renew [(4, (.bool true))] rfl ?_
      rintro s h4
      refine .nsq ?_
      refine .ret ?_
      have hr := Option.some.inj h
      subst hr
      exact rrA (res_tmp h4) rfl
def s_l6Decomposes_l2 (F : Nat) (bags_2 : (List (List Int))) (g_1 : (Int × (List (Int × Int))))  : Nat → Int → Option Bool
  | 0, _ => none
  | k + 1, x_5 =>
    bif decide (x_5 < g_1.1) then
      (s_l6Run F bags_2 x_5).bind fun r_7 =>
      bif (!r_7) then
        some false
      else
        (s_l6Decomposes_l2 F bags_2 g_1 k) (w64 (x_5 + 1))
    else
      s_l6Decomposes_l1 F bags_2 g_1 F 0
theorem t_f52_l2 (H : H52 D σ F) (bags_2 : (List (List Int))) (g_1 : (Int × (List (Int × Int))))  : ∀ (k : Nat) (x_5 : Int) (s : Nat → V), Facts [(1, (Enc.enc (bags_2 : List (List Int)))), (2, (.ref (.bx 2) 0 [] (.agg [(.int .i64 g_1.1), (Enc.enc (g_1.2 : List (Int × Int)))]))), (4, (.bool false)), (5, (.int .i64 x_5))] s → s_l6Decomposes_l2 F bags_2 g_1 k x_5 = some r → Run D σ (R52 r) (.run A52_7 [.lp A52_7, .bk 0, .sq A52_12]) s := by
  intro k
  induction k with
  | zero => intro x_5 s _ h; exact nomatch (h : (none : Option _) = some r)
  | succ k ih =>
    intro x_5 s hs h
    rw [s_l6Decomposes_l2] at h
    obtain ⟨h1, h2, h4, h5⟩ := hs
    refine .seq ?_
    refine .seq ?_
    refine run_reg ?_
    refine e_end ?_
    refine g_v1 (t := 5) (u := (.int .i64 x_5)) (.int .i64 x_5) h5 rfl rfl ?_
    refine g_v1 (t := 2) (u := (.ref (.bx 2) 0 [] (.agg [(.int .i64 g_1.1), (Enc.enc (g_1.2 : List (Int × Int)))]))) (.ref (.bx 2) 0 [0] (.int .i64 g_1.1)) h2 rfl rfl ?_
    refine g_v1 (t := 12) (u := (.ref (.bx 2) 0 [0] (.int .i64 g_1.1))) (.int .i64 g_1.1) rfl rfl rfl ?_
    refine g_v2 (t1 := 11) (t2 := 13) (u1 := (.int .i64 x_5)) (u2 := (.int .i64 g_1.1)) (.bool (decide (x_5 < g_1.1))) rfl rfl rfl rfl ?_
    refine g_end ?_
    refine e_end ?_
    refine renew [(1, (Enc.enc (bags_2 : List (List Int)))), (2, (.ref (.bx 2) 0 [] (.agg [(.int .i64 g_1.1), (Enc.enc (g_1.2 : List (Int × Int)))]))), (4, (.bool false)), (5, (.int .i64 x_5)), (14, (.bool (decide (x_5 < g_1.1))))] ⟨h1, h2, h4, h5, rfl⟩ ?_
    rintro s ⟨h1, h2, h4, h5, h14⟩
    refine .nsq ?_
    refine run_cond (t := decide (x_5 < g_1.1)) h14 h (fun h => ?_) (fun h => ?_)
    · refine .skip ?_
      refine .nsq ?_
      refine .seq ?_
      refine .block ?_
      refine .seq ?_
      refine run_reg ?_
      refine e_end ?_
      refine g_v1 (t := 1) (u := (Enc.enc (bags_2 : List (List Int)))) (Enc.enc (bags_2 : List (List Int))) h1 rfl rfl ?_
      refine g_v1 (t := 5) (u := (.int .i64 x_5)) (.int .i64 x_5) h5 rfl rfl ?_
      obtain ⟨r_7, E_r_7, h⟩ := bind_some h
      refine g_call (m := 0) (al := false) (r := (Enc.enc (r_7 : Bool))) [Enc.enc (bags_2 : (List (List Int))), Enc.enc (x_5 : Int)] (ta_cons (v := (Enc.enc (bags_2 : List (List Int)))) rfl rfl (Enc.erase_enc (bags_2 : (List (List Int)))) (ta_cons (v := (.int .i64 x_5)) rfl rfl rfl ta_nil)) (H.c79 _ _ _ E_r_7) H.g79 rfl rfl rfl rfl ?_
      refine g_v1 (t := 19) (u := (.bool r_7)) (.bool (!r_7)) rfl rfl rfl ?_
      refine g_end ?_
      refine e_end ?_
      refine renew [(1, (Enc.enc (bags_2 : List (List Int)))), (2, (.ref (.bx 2) 0 [] (.agg [(.int .i64 g_1.1), (Enc.enc (g_1.2 : List (Int × Int)))]))), (4, (.bool false)), (5, (.int .i64 x_5)), (20, (.bool (!r_7)))] ⟨h1, h2, h4, h5, rfl⟩ ?_
      rintro s ⟨h1, h2, h4, h5, h20⟩
      refine .nsq ?_
      refine run_cond (t := (!r_7)) h20 h (fun h => ?_) (fun h => ?_)
      · refine .seq ?_
        refine run_reg ?_
        refine e_end ?_
        refine g_v0 (.bool false) rfl rfl ?_
        refine g_end ?_
        refine e_end ?_
        refine renew [(1, (Enc.enc (bags_2 : List (List Int)))), (2, (.ref (.bx 2) 0 [] (.agg [(.int .i64 g_1.1), (Enc.enc (g_1.2 : List (Int × Int)))]))), (4, (.bool false)), (5, (.int .i64 x_5))] ⟨h1, h2, rfl, h5⟩ ?_
        rintro s ⟨h1, h2, h4, h5⟩
        refine .nsq ?_
        refine .ret ?_
        have hr := Option.some.inj h
        subst hr
        exact rrA (res_tmp h4) rfl
      · refine .skip ?_
        refine .nbk ?_
        refine .nsq ?_
        refine run_reg ?_
        refine e_end ?_
        refine g_v1 (t := 5) (u := (.int .i64 x_5)) (.int .i64 x_5) h5 rfl rfl ?_
        refine g_v1 (t := 15) (u := (.int .i64 x_5)) (.int .i64 (w64 (x_5 + 1))) rfl rfl rfl ?_
        refine g_v1 (t := 16) (u := (.int .i64 (w64 (x_5 + 1)))) (.int .i64 (w64 (x_5 + 1))) rfl rfl rfl ?_
        refine g_end ?_
        refine e_end ?_
        refine renew [(1, (Enc.enc (bags_2 : List (List Int)))), (2, (.ref (.bx 2) 0 [] (.agg [(.int .i64 g_1.1), (Enc.enc (g_1.2 : List (Int × Int)))]))), (4, (.bool false)), (5, (.int .i64 (w64 (x_5 + 1))))] ⟨h1, h2, h4, rfl⟩ ?_
        rintro s ⟨h1, h2, h4, h5⟩
        refine .nlp ?_
        exact ih (w64 (x_5 + 1)) _ ⟨h1, h2, h4, h5⟩ h
    · refine .exit ?_
      refine .esq ?_
      refine .elp ?_
      refine .ebk ?_
      refine .nsq ?_
      refine .seq ?_
      refine .seq ?_
      refine run_reg ?_
      refine e_end ?_
      refine g_v0 (.int .i64 0) rfl rfl ?_
      refine g_end ?_
      refine e_end ?_
      refine renew [(1, (Enc.enc (bags_2 : List (List Int)))), (2, (.ref (.bx 2) 0 [] (.agg [(.int .i64 g_1.1), (Enc.enc (g_1.2 : List (Int × Int)))]))), (4, (.bool false)), (6, (.int .i64 0))] ⟨h1, h2, h4, rfl⟩ ?_
      rintro s ⟨h1, h2, h4, h6⟩
      refine .nsq ?_
      refine .block ?_
      refine .loop ?_
      exact t_f52_l1 H bags_2 g_1 F 0 _ ⟨h1, h2, h4, h6⟩ h
def s_l6Decomposes (F : Nat) (g_1 : (Int × (List (Int × Int)))) (bags_2 : (List (List Int))) : Option Bool :=
  (s_l6Bags F g_1 bags_2).bind fun r_3 =>
  bif (!r_3) then
    some false
  else
    s_l6Decomposes_l2 F bags_2 g_1 F 0
theorem t52 (H : H52 D σ F) (g_1 : (Int × (List (Int × Int)))) (bags_2 : (List (List Int))) (s : Nat → V) (hs : Facts [(0, (.agg [(.int .i64 g_1.1), (Enc.enc (g_1.2 : List (Int × Int)))])), (1, (Enc.enc (bags_2 : List (List Int))))] s) (h : s_l6Decomposes F g_1 bags_2 = some r) : Run D σ (R52 r) (.run A52 []) s := by
  unfold s_l6Decomposes at h
  obtain ⟨h0, h1⟩ := hs
  refine .seq ?_
  refine run_reg ?_
  refine e_clr ?_
  refine e_end ?_
  refine g_box (.agg [(.int .i64 g_1.1), (Enc.enc (g_1.2 : List (Int × Int)))]) (rd_of (keep_clear (s := s) (pk := [2]) h0 rfl (map_agg (maps_cons rfl (maps_cons (Enc.map_enc _ (g_1.2 : List (Int × Int))) maps_nil)))) rfl) (gone_clear (s := s) (pk := [2]) (t := 2) rfl) rfl ?_
  refine g_v0 (.bool false) rfl rfl ?_
  refine g_end ?_
  refine e_end ?_
  refine renew [(1, (Enc.enc (bags_2 : List (List Int)))), (2, (.ref (.bx 2) 0 [] (.agg [(.int .i64 g_1.1), (Enc.enc (g_1.2 : List (Int × Int)))]))), (4, (.bool false))] ⟨(keep_clear (s := s) (pk := [2]) h1 rfl (Enc.map_enc _ (bags_2 : List (List Int)))), rfl, rfl⟩ ?_
  rintro s ⟨h1, h2, h4⟩
  refine .nsq ?_
  refine .seq ?_
  refine .seq ?_
  refine run_reg ?_
  refine e_end ?_
  refine g_v1 (t := 2) (u := (.ref (.bx 2) 0 [] (.agg [(.int .i64 g_1.1), (Enc.enc (g_1.2 : List (Int × Int)))]))) (.agg [(.int .i64 g_1.1), (Enc.enc (g_1.2 : List (Int × Int)))]) h2 rfl rfl ?_
  refine g_v1 (t := 1) (u := (Enc.enc (bags_2 : List (List Int)))) (Enc.enc (bags_2 : List (List Int))) h1 rfl rfl ?_
  obtain ⟨r_3, E_r_3, h⟩ := bind_some h
  refine g_call (m := 0) (al := false) (r := (Enc.enc (r_3 : Bool))) [Enc.enc (g_1 : (Int × (List (Int × Int)))), Enc.enc (bags_2 : (List (List Int)))] (ta_cons (v := (.agg [(.int .i64 g_1.1), (Enc.enc (g_1.2 : List (Int × Int)))])) rfl rfl (Enc.erase_enc (g_1 : (Int × (List (Int × Int))))) (ta_cons (v := (Enc.enc (bags_2 : List (List Int)))) rfl rfl (Enc.erase_enc (bags_2 : (List (List Int)))) ta_nil)) (H.c78 _ _ _ E_r_3) H.g78 rfl rfl rfl rfl ?_
  refine g_v1 (t := 9) (u := (.bool r_3)) (.bool (!r_3)) rfl rfl rfl ?_
  refine g_end ?_
  refine e_end ?_
  refine renew [(1, (Enc.enc (bags_2 : List (List Int)))), (2, (.ref (.bx 2) 0 [] (.agg [(.int .i64 g_1.1), (Enc.enc (g_1.2 : List (Int × Int)))]))), (4, (.bool false)), (10, (.bool (!r_3)))] ⟨h1, h2, h4, rfl⟩ ?_
  rintro s ⟨h1, h2, h4, h10⟩
  refine .nsq ?_
  refine run_cond (t := (!r_3)) h10 h (fun h => ?_) (fun h => ?_)
  · refine .seq ?_
    refine run_reg ?_
    refine e_end ?_
    refine g_v0 (.bool false) rfl rfl ?_
    refine g_end ?_
    refine e_end ?_
    refine renew [(1, (Enc.enc (bags_2 : List (List Int)))), (2, (.ref (.bx 2) 0 [] (.agg [(.int .i64 g_1.1), (Enc.enc (g_1.2 : List (Int × Int)))]))), (4, (.bool false))] ⟨h1, h2, rfl⟩ ?_
    rintro s ⟨h1, h2, h4⟩
    refine .nsq ?_
    refine .ret ?_
    have hr := Option.some.inj h
    subst hr
    exact rrA (res_tmp h4) rfl
  · refine .skip ?_
    refine .nsq ?_
    refine .seq ?_
    refine .seq ?_
    refine run_reg ?_
    refine e_end ?_
    refine g_v0 (.int .i64 0) rfl rfl ?_
    refine g_end ?_
    refine e_end ?_
    refine renew [(1, (Enc.enc (bags_2 : List (List Int)))), (2, (.ref (.bx 2) 0 [] (.agg [(.int .i64 g_1.1), (Enc.enc (g_1.2 : List (Int × Int)))]))), (4, (.bool false)), (5, (.int .i64 0))] ⟨h1, h2, h4, rfl⟩ ?_
    rintro s ⟨h1, h2, h4, h5⟩
    refine .nsq ?_
    refine .block ?_
    refine .loop ?_
    exact t_f52_l2 H bags_2 g_1 F 0 _ ⟨h1, h2, h4, h5⟩ h
end
def e52 (F : Nat) : Ent := ⟨52, da (fun (x : ((Int × (List (Int × Int))) × (List (List Int)) × Unit)) => s_l6Decomposes F x.1 x.2.1) (fun (r : Bool) => (Enc.enc (r : Bool))), 0, false, selF []⟩
theorem p52 {F : Nat} {x0 : (Int × (List (Int × Int)))} {x1 : (List (List Int))} {r : Bool} (h : s_l6Decomposes F x0 x1 = some r) : (e52 F).den [Enc.enc x0, Enc.enc x1] = some (Enc.enc (r : Bool)) := da_put (f := fun (x : ((Int × (List (Int × Int))) × (List (List Int)) × Unit)) => s_l6Decomposes F x.1 x.2.1) (t := fun (r : Bool) => (Enc.enc (r : Bool))) (x0, x1, ()) h
theorem o52 {D : Den} {σ : Sig} {F : Nat} (hF : Fits2 Try.prog D σ) (H : H52 D σ F) : (e52 F).Ok Try.prog := by
  refine ⟨fun args r h => ?_, ⟨Try.f52, Try.func52, rfl, rfl⟩⟩
  obtain ⟨⟨x0, x1, _⟩, y, rfl, hy, rfl⟩ := da_open h
  exact contract_run hF (by kernel_rfl) Try.func52 rfl c52 (show 2 ≤ Try.f52.ntmps by decide) (t52 H x0 x1 _ ⟨rfl, rfl⟩ hy)
/- loop.example/g01109/spec.IsPathDecomposition -/
def A21_2 : AC := (AC.cond (O.t 8) (AC.seq (AC.reg [] [(I.mk (some 4) none false (X.v (A.mov (O.k (V.bool false))))), (I.mk (some 5) none false (X.v (A.mov (O.k (V.bool false)))))] []) AC.ret) AC.skip)
def A21_3 : AC := (AC.seq (AC.reg [] [(I.mk (some 9) none false (X.v (A.load (Sh.ag [Sh.s, Sh.p]) (O.t 2)))), (I.mk (some 10) none false (X.v (A.mov (O.t 1)))), (I.mk (some 11) none false (X.call (O.k (V.fn 52 [] [])) [(O.t 9), (O.t 10)])), (I.mk (some 4) none false (X.v (A.mov (O.t 11)))), (I.mk (some 5) none false (X.v (A.mov (O.k (V.bool true)))))] []) AC.ret)
def A21_1 : AC := (AC.seq (AC.seq (AC.reg [] [(I.mk (some 6) none false (X.v (A.load (Sh.ag [Sh.s, Sh.p]) (O.t 2)))), (I.mk (some 7) none false (X.call (O.k (V.fn 42 [] [])) [(O.t 6)])), (I.mk (some 8) none false (X.v (A.un UnOp.not (O.t 7))))] []) A21_2) A21_3)
def A21 : AC := (AC.seq (AC.reg [.clr [2]] [(I.mk (some 2) none false (X.box (O.t 0))), (I.mk (some 4) none false (X.v (A.mov (O.k (V.bool false))))), (I.mk (some 5) none false (X.v (A.mov (O.k (V.bool false)))))] []) A21_1)
def an21 : List An := [{ id := 0, pre := [.clr [2]], ep := [], lin := [], sp := [] }]
theorem c21 : cC Try.prog Try.f21.ntmps an21 (Try.f21.body.getD .skip) = some A21 := by kernel_rfl
structure H21 (D : Den) (σ : Sig) (F : Nat) : Prop where
  c42 : ∀ (x0 : (Int × (List (Int × Int)))) r, s_l2Good F x0 = some r → D 42 [Enc.enc x0] = some (Enc.enc (r : Bool))
  g42 : σ 42 = some (0, false)
  c52 : ∀ (x0 : (Int × (List (Int × Int)))) (x1 : (List (List Int))) r, s_l6Decomposes F x0 x1 = some r → D 52 [Enc.enc x0, Enc.enc x1] = some (Enc.enc (r : Bool))
  g52 : σ 52 = some (0, false)
abbrev R21 (r : (Bool × Bool)) : (Nat → V) → Prop := RR Try.prog [.tmp 4, .tmp 5] 0 false (.tup [Enc.enc (r.1 : Bool), Enc.enc (r.2 : Bool)])
section
variable {D : Den} {σ : Sig} {F : Nat} {r : (Bool × Bool)}
def s_IsPathDecomposition (F : Nat) (g_1 : (Int × (List (Int × Int)))) (bags_2 : (List (List Int))) : Option (Bool × Bool) :=
  (s_l2Good F g_1).bind fun r_3 =>
  bif (!r_3) then
    some (false, false)
  else
    (s_l6Decomposes F g_1 bags_2).bind fun r_4 =>
    some (r_4, true)
theorem t21 (H : H21 D σ F) (g_1 : (Int × (List (Int × Int)))) (bags_2 : (List (List Int))) (s : Nat → V) (hs : Facts [(0, (.agg [(.int .i64 g_1.1), (Enc.enc (g_1.2 : List (Int × Int)))])), (1, (Enc.enc (bags_2 : List (List Int))))] s) (h : s_IsPathDecomposition F g_1 bags_2 = some r) : Run D σ (R21 r) (.run A21 []) s := by
  unfold s_IsPathDecomposition at h
  obtain ⟨h0, h1⟩ := hs
  refine .seq ?_
  refine run_reg ?_
  refine e_clr ?_
  refine e_end ?_
  refine g_box (.agg [(.int .i64 g_1.1), (Enc.enc (g_1.2 : List (Int × Int)))]) (rd_of (keep_clear (s := s) (pk := [2]) h0 rfl (map_agg (maps_cons rfl (maps_cons (Enc.map_enc _ (g_1.2 : List (Int × Int))) maps_nil)))) rfl) (gone_clear (s := s) (pk := [2]) (t := 2) rfl) rfl ?_
  refine g_v0 (.bool false) rfl rfl ?_
  refine g_v0 (.bool false) rfl rfl ?_
  refine g_end ?_
  refine e_end ?_
  refine renew [(1, (Enc.enc (bags_2 : List (List Int)))), (2, (.ref (.bx 2) 0 [] (.agg [(.int .i64 g_1.1), (Enc.enc (g_1.2 : List (Int × Int)))]))), (4, (.bool false)), (5, (.bool false))] ⟨(keep_clear (s := s) (pk := [2]) h1 rfl (Enc.map_enc _ (bags_2 : List (List Int)))), rfl, rfl, rfl⟩ ?_
  rintro s ⟨h1, h2, h4, h5⟩
  refine .nsq ?_
  refine .seq ?_
  refine .seq ?_
  refine run_reg ?_
  refine e_end ?_
  refine g_v1 (t := 2) (u := (.ref (.bx 2) 0 [] (.agg [(.int .i64 g_1.1), (Enc.enc (g_1.2 : List (Int × Int)))]))) (.agg [(.int .i64 g_1.1), (Enc.enc (g_1.2 : List (Int × Int)))]) h2 rfl rfl ?_
  obtain ⟨r_3, E_r_3, h⟩ := bind_some h
  refine g_call (m := 0) (al := false) (r := (Enc.enc (r_3 : Bool))) [Enc.enc (g_1 : (Int × (List (Int × Int))))] (ta_cons (v := (.agg [(.int .i64 g_1.1), (Enc.enc (g_1.2 : List (Int × Int)))])) rfl rfl (Enc.erase_enc (g_1 : (Int × (List (Int × Int))))) ta_nil) (H.c42 _ _ E_r_3) H.g42 rfl rfl rfl rfl ?_
  refine g_v1 (t := 7) (u := (.bool r_3)) (.bool (!r_3)) rfl rfl rfl ?_
  refine g_end ?_
  refine e_end ?_
  refine renew [(1, (Enc.enc (bags_2 : List (List Int)))), (2, (.ref (.bx 2) 0 [] (.agg [(.int .i64 g_1.1), (Enc.enc (g_1.2 : List (Int × Int)))]))), (4, (.bool false)), (5, (.bool false)), (8, (.bool (!r_3)))] ⟨h1, h2, h4, h5, rfl⟩ ?_
  rintro s ⟨h1, h2, h4, h5, h8⟩
  refine .nsq ?_
  refine run_cond (t := (!r_3)) h8 h (fun h => ?_) (fun h => ?_)
  · refine .seq ?_
    refine run_reg ?_
    refine e_end ?_
    refine g_v0 (.bool false) rfl rfl ?_
    refine g_v0 (.bool false) rfl rfl ?_
    refine g_end ?_
    refine e_end ?_
    refine renew [(1, (Enc.enc (bags_2 : List (List Int)))), (2, (.ref (.bx 2) 0 [] (.agg [(.int .i64 g_1.1), (Enc.enc (g_1.2 : List (Int × Int)))]))), (4, (.bool false)), (5, (.bool false))] ⟨h1, h2, rfl, rfl⟩ ?_
    rintro s ⟨h1, h2, h4, h5⟩
    refine .nsq ?_
    refine .ret ?_
    have hr := Option.some.inj h
    subst hr
    exact rrB (res_tmp h4) (res_tmp h5) rfl
  · refine .skip ?_
    refine .nsq ?_
    refine .seq ?_
    refine run_reg ?_
    refine e_end ?_
    refine g_v1 (t := 2) (u := (.ref (.bx 2) 0 [] (.agg [(.int .i64 g_1.1), (Enc.enc (g_1.2 : List (Int × Int)))]))) (.agg [(.int .i64 g_1.1), (Enc.enc (g_1.2 : List (Int × Int)))]) h2 rfl rfl ?_
    refine g_v1 (t := 1) (u := (Enc.enc (bags_2 : List (List Int)))) (Enc.enc (bags_2 : List (List Int))) h1 rfl rfl ?_
    obtain ⟨r_4, E_r_4, h⟩ := bind_some h
    refine g_call (m := 0) (al := false) (r := (Enc.enc (r_4 : Bool))) [Enc.enc (g_1 : (Int × (List (Int × Int)))), Enc.enc (bags_2 : (List (List Int)))] (ta_cons (v := (.agg [(.int .i64 g_1.1), (Enc.enc (g_1.2 : List (Int × Int)))])) rfl rfl (Enc.erase_enc (g_1 : (Int × (List (Int × Int))))) (ta_cons (v := (Enc.enc (bags_2 : List (List Int)))) rfl rfl (Enc.erase_enc (bags_2 : (List (List Int)))) ta_nil)) (H.c52 _ _ _ E_r_4) H.g52 rfl rfl rfl rfl ?_
    refine g_v1 (t := 11) (u := (.bool r_4)) (.bool r_4) rfl rfl rfl ?_
    refine g_v0 (.bool true) rfl rfl ?_
    refine g_end ?_
    refine e_end ?_
    refine renew [(4, (.bool r_4)), (5, (.bool true))] ⟨rfl, rfl⟩ ?_
    rintro s ⟨h4, h5⟩
    refine .nsq ?_
    refine .ret ?_
    have hr := Option.some.inj h
    subst hr
    exact rrB (res_tmp h4) (res_tmp h5) rfl
end
def e21 (F : Nat) : Ent := ⟨21, da (fun (x : ((Int × (List (Int × Int))) × (List (List Int)) × Unit)) => s_IsPathDecomposition F x.1 x.2.1) (fun (r : (Bool × Bool)) => (.tup [Enc.enc (r.1 : Bool), Enc.enc (r.2 : Bool)])), 0, false, selF []⟩
theorem p21 {F : Nat} {x0 : (Int × (List (Int × Int)))} {x1 : (List (List Int))} {r : (Bool × Bool)} (h : s_IsPathDecomposition F x0 x1 = some r) : (e21 F).den [Enc.enc x0, Enc.enc x1] = some (.tup [Enc.enc (r.1 : Bool), Enc.enc (r.2 : Bool)]) := da_put (f := fun (x : ((Int × (List (Int × Int))) × (List (List Int)) × Unit)) => s_IsPathDecomposition F x.1 x.2.1) (t := fun (r : (Bool × Bool)) => (.tup [Enc.enc (r.1 : Bool), Enc.enc (r.2 : Bool)])) (x0, x1, ()) h
theorem o21 {D : Den} {σ : Sig} {F : Nat} (hF : Fits2 Try.prog D σ) (H : H21 D σ F) : (e21 F).Ok Try.prog := by
  refine ⟨fun args r h => ?_, ⟨Try.f21, Try.func21, rfl, rfl⟩⟩
  obtain ⟨⟨x0, x1, _⟩, y, rfl, hy, rfl⟩ := da_open h
  exact contract_run hF (by kernel_rfl) Try.func21 rfl c21 (show 2 ≤ Try.f21.ntmps by decide) (t21 H x0 x1 _ ⟨rfl, rfl⟩ hy)
/- loop.example/g01109/impl.within -/
def A62_1 : AC := (AC.seq (AC.reg [] [(I.mk (some 7) none false (X.v (A.mov (O.t 0)))), (I.mk (some 8) none false (X.v (A.mov (O.t 1)))), (I.mk (some 9) none false (X.v (A.bin BinOp.geq (O.t 7) (O.t 8)))), (I.mk (some 10) none false (X.v (A.mov (O.t 9)))), (I.mk (some 11) (some (10, true)) false (X.v (A.mov (O.t 0)))), (I.mk (some 12) (some (10, true)) false (X.v (A.mov (O.t 2)))), (I.mk (some 13) (some (10, true)) false (X.v (A.bin BinOp.leq (O.t 11) (O.t 12)))), (I.mk (some 14) none false (X.v (A.pick (O.t 10) (O.t 13) (O.k (V.bool false))))), (I.mk (some 6) none false (X.v (A.mov (O.t 14))))] []) AC.ret)
def A62 : AC := (AC.seq (AC.reg [] [(I.mk (some 6) none false (X.v (A.mov (O.k (V.bool false)))))] []) A62_1)
def an62 : List An := []
theorem c62 : cC Try.prog Try.f62.ntmps an62 (Try.f62.body.getD .skip) = some A62 := by kernel_rfl
structure H62 (D : Den) (σ : Sig) (F : Nat) : Prop where
  mk ::
abbrev R62 (r : Bool) : (Nat → V) → Prop := RR Try.prog [.tmp 6] 0 false (Enc.enc (r : Bool))
section
variable {D : Den} {σ : Sig} {F : Nat} {r : Bool}
def i_within (F : Nat) (n_1 : Int) (low_2 : Int) (high_3 : Int) : Option Bool :=
  bif decide (n_1 ≥ low_2) then
    some (decide (n_1 ≤ high_3))
  else
    some false
theorem t62 (H : H62 D σ F) (n_1 : Int) (low_2 : Int) (high_3 : Int) (s : Nat → V) (hs : Facts [(0, (.int .i64 n_1)), (1, (.int .i64 low_2)), (2, (.int .i64 high_3))] s) (h : i_within F n_1 low_2 high_3 = some r) : Run D σ (R62 r) (.run A62 []) s := by
  unfold i_within at h
  obtain ⟨h0, h1, h2⟩ := hs
  refine .seq ?_
  refine run_reg ?_
  refine e_end ?_
  refine g_v0 (.bool false) rfl rfl ?_
  refine g_end ?_
  refine e_end ?_
  refine renew [(0, (.int .i64 n_1)), (1, (.int .i64 low_2)), (2, (.int .i64 high_3)), (6, (.bool false))] ⟨h0, h1, h2, rfl⟩ ?_
  rintro s ⟨h0, h1, h2, h6⟩
  refine .nsq ?_
  refine .seq ?_
  refine run_reg ?_
  refine e_end ?_
  refine g_v1 (t := 0) (u := (.int .i64 n_1)) (.int .i64 n_1) h0 rfl rfl ?_
  refine g_v1 (t := 1) (u := (.int .i64 low_2)) (.int .i64 low_2) h1 rfl rfl ?_
  refine g_v2 (t1 := 7) (t2 := 8) (u1 := (.int .i64 n_1)) (u2 := (.int .i64 low_2)) (.bool (decide (n_1 ≥ low_2))) rfl rfl rfl rfl ?_
  refine g_v1 (t := 9) (u := (.bool (decide (n_1 ≥ low_2)))) (.bool (decide (n_1 ≥ low_2))) rfl rfl rfl ?_
  refine split_on (c := decide (n_1 ≥ low_2)) h (fun hg4 h => ?_) (fun hg4 h => ?_)
  · refine g_yes (Eq.trans (b := .bool (decide (n_1 ≥ low_2))) rfl (congrArg V.bool hg4)) (g_v1 (t := 0) (u := (.int .i64 n_1)) (.int .i64 n_1) h0 rfl rfl ?_)
    refine g_yes (Eq.trans (b := .bool (decide (n_1 ≥ low_2))) rfl (congrArg V.bool hg4)) (g_v1 (t := 2) (u := (.int .i64 high_3)) (.int .i64 high_3) h2 rfl rfl ?_)
    refine g_yes (Eq.trans (b := .bool (decide (n_1 ≥ low_2))) rfl (congrArg V.bool hg4)) (g_v2 (t1 := 11) (t2 := 12) (u1 := (.int .i64 n_1)) (u2 := (.int .i64 high_3)) (.bool (decide (n_1 ≤ high_3))) rfl rfl rfl rfl ?_)
    refine g_v2 (t1 := 10) (t2 := 13) (u1 := (.bool true)) (u2 := (.bool (decide (n_1 ≤ high_3)))) (.bool (decide (n_1 ≤ high_3))) (Eq.trans (b := .bool (decide (n_1 ≥ low_2))) rfl (congrArg V.bool hg4)) rfl rfl rfl ?_
    refine g_v1 (t := 14) (u := (.bool (decide (n_1 ≤ high_3)))) (.bool (decide (n_1 ≤ high_3))) rfl rfl rfl ?_
    refine g_end ?_
    refine e_end ?_
    refine renew [(6, (.bool (decide (n_1 ≤ high_3))))] rfl ?_
    rintro s h6
    refine .nsq ?_
    refine .ret ?_
    have hr := Option.some.inj h
    subst hr
    exact rrA (res_tmp h6) rfl
  · refine g_no (Eq.trans (b := .bool (decide (n_1 ≥ low_2))) rfl (congrArg V.bool hg4)) ?_
    refine g_no (Eq.trans (b := .bool (decide (n_1 ≥ low_2))) rfl (congrArg V.bool hg4)) ?_
    refine g_no (Eq.trans (b := .bool (decide (n_1 ≥ low_2))) rfl (congrArg V.bool hg4)) ?_
    refine g_v2 (t1 := 10) (t2 := 13) (u1 := (.bool false)) (u2 := (.tup [])) (.bool false) (Eq.trans (b := .bool (decide (n_1 ≥ low_2))) rfl (congrArg V.bool hg4)) rfl rfl rfl ?_
    refine g_v1 (t := 14) (u := (.bool false)) (.bool false) rfl rfl rfl ?_
    refine g_end ?_
    refine e_end ?_
    refine renew [(6, (.bool false))] rfl ?_
    rintro s h6
    refine .nsq ?_
    refine .ret ?_
    have hr := Option.some.inj h
    subst hr
    exact rrA (res_tmp h6) rfl
end
def e62 (F : Nat) : Ent := ⟨62, da (fun (x : (Int × Int × Int × Unit)) => i_within F x.1 x.2.1 x.2.2.1) (fun (r : Bool) => (Enc.enc (r : Bool))), 0, false, selF []⟩
theorem p62 {F : Nat} {x0 : Int} {x1 : Int} {x2 : Int} {r : Bool} (h : i_within F x0 x1 x2 = some r) : (e62 F).den [Enc.enc x0, Enc.enc x1, Enc.enc x2] = some (Enc.enc (r : Bool)) := da_put (f := fun (x : (Int × Int × Int × Unit)) => i_within F x.1 x.2.1 x.2.2.1) (t := fun (r : Bool) => (Enc.enc (r : Bool))) (x0, x1, x2, ()) h
theorem o62 {D : Den} {σ : Sig} {F : Nat} (hF : Fits2 Try.prog D σ) (H : H62 D σ F) : (e62 F).Ok Try.prog := by
  refine ⟨fun args r h => ?_, ⟨Try.f62, Try.func62, rfl, rfl⟩⟩
  obtain ⟨⟨x0, x1, x2, _⟩, y, rfl, hy, rfl⟩ := da_open h
  exact contract_run hF (by kernel_rfl) Try.func62 rfl c62 (show 3 ≤ Try.f62.ntmps by decide) (t62 H x0 x1 x2 _ ⟨rfl, rfl, rfl⟩ hy)
/- cmp.isNaN[int] -/
def A131_1 : AC := (AC.seq (AC.reg [] [(I.mk (some 3) none false (X.v (A.mov (O.t 0)))), (I.mk (some 4) none false (X.v (A.mov (O.t 0)))), (I.mk (some 5) none false (X.v (A.bin BinOp.neq (O.t 3) (O.t 4)))), (I.mk (some 2) none false (X.v (A.mov (O.t 5))))] []) AC.ret)
def A131 : AC := (AC.seq (AC.reg [] [(I.mk (some 2) none false (X.v (A.mov (O.k (V.bool false)))))] []) A131_1)
def an131 : List An := []
theorem c131 : cC Try.prog Try.f131.ntmps an131 (Try.f131.body.getD .skip) = some A131 := by kernel_rfl
structure H131 (D : Den) (σ : Sig) (F : Nat) : Prop where
  mk ::
abbrev R131 (r : Bool) : (Nat → V) → Prop := RR Try.prog [.tmp 2] 0 false (Enc.enc (r : Bool))
section
variable {D : Den} {σ : Sig} {F : Nat} {r : Bool}
def cmp_isNaN_int (F : Nat) (x_1 : Int) : Option Bool :=
  some (x_1 != x_1)
theorem t131 (H : H131 D σ F) (x_1 : Int) (s : Nat → V) (hs : Facts [(0, (.int .i64 x_1))] s) (h : cmp_isNaN_int F x_1 = some r) : Run D σ (R131 r) (.run A131 []) s := by
  unfold cmp_isNaN_int at h
  have h0 := hs
  refine .seq ?_
  refine run_reg ?_
  refine e_end ?_
  refine g_v0 (.bool false) rfl rfl ?_
  refine g_end ?_
  refine e_end ?_
  refine renew [(0, (.int .i64 x_1)), (2, (.bool false))] ⟨h0, rfl⟩ ?_
  rintro s ⟨h0, h2⟩
  refine .nsq ?_
  refine .seq ?_
  refine run_reg ?_
  refine e_end ?_
  refine g_v1 (t := 0) (u := (.int .i64 x_1)) (.int .i64 x_1) h0 rfl rfl ?_
  refine g_v1 (t := 0) (u := (.int .i64 x_1)) (.int .i64 x_1) h0 rfl rfl ?_
  refine g_v2 (t1 := 3) (t2 := 4) (u1 := (.int .i64 x_1)) (u2 := (.int .i64 x_1)) (.bool (x_1 != x_1)) rfl rfl rfl rfl ?_
  refine g_v1 (t := 5) (u := (.bool (x_1 != x_1))) (.bool (x_1 != x_1)) rfl rfl rfl ?_
  refine g_end ?_
  refine e_end ?_
  refine renew [(2, (.bool (x_1 != x_1)))] rfl ?_
  rintro s h2
  refine .nsq ?_
  refine .ret ?_
  have hr := Option.some.inj h
  subst hr
  exact rrA (res_tmp h2) rfl
end
def e131 (F : Nat) : Ent := ⟨131, da (fun (x : (Int × Unit)) => cmp_isNaN_int F x.1) (fun (r : Bool) => (Enc.enc (r : Bool))), 0, false, selF []⟩
theorem p131 {F : Nat} {x0 : Int} {r : Bool} (h : cmp_isNaN_int F x0 = some r) : (e131 F).den [Enc.enc x0] = some (Enc.enc (r : Bool)) := da_put (f := fun (x : (Int × Unit)) => cmp_isNaN_int F x.1) (t := fun (r : Bool) => (Enc.enc (r : Bool))) (x0, ()) h
theorem o131 {D : Den} {σ : Sig} {F : Nat} (hF : Fits2 Try.prog D σ) (H : H131 D σ F) : (e131 F).Ok Try.prog := by
  refine ⟨fun args r h => ?_, ⟨Try.f131, Try.func131, rfl, rfl⟩⟩
  obtain ⟨⟨x0, _⟩, y, rfl, hy, rfl⟩ := da_open h
  exact contract_run hF (by kernel_rfl) Try.func131 rfl c131 (show 1 ≤ Try.f131.ntmps by decide) (t131 H x0 _ rfl hy)
/- cmp.Compare[int] -/
def A114_5 : AC := (AC.cond (O.t 12) (AC.seq (AC.reg [] [(I.mk (some 4) none false (X.v (A.mov (O.k (V.int IntKind.i64 (Int.ofNat 0))))))] []) AC.ret) AC.skip)
def A114_6 : AC := (AC.seq (AC.reg [] [(I.mk (some 4) none false (X.v (A.mov (O.k (V.int IntKind.i64 (Int.negSucc 0))))))] []) AC.ret)
def A114_4 : AC := (AC.cond (O.t 11) (AC.seq (AC.seq (AC.reg [] [(I.mk (some 12) none false (X.v (A.mov (O.t 6))))] []) A114_5) A114_6) AC.skip)
def A114_8 : AC := (AC.cond (O.t 13) (AC.seq (AC.reg [] [(I.mk (some 4) none false (X.v (A.mov (O.k (V.int IntKind.i64 (Int.ofNat 1))))))] []) AC.ret) AC.skip)
def A114_10 : AC := (AC.cond (O.t 16) (AC.seq (AC.reg [] [(I.mk (some 4) none false (X.v (A.mov (O.k (V.int IntKind.i64 (Int.negSucc 0))))))] []) AC.ret) AC.skip)
def A114_12 : AC := (AC.cond (O.t 19) (AC.seq (AC.reg [] [(I.mk (some 4) none false (X.v (A.mov (O.k (V.int IntKind.i64 (Int.ofNat 1))))))] []) AC.ret) AC.skip)
def A114_13 : AC := (AC.seq (AC.reg [] [(I.mk (some 4) none false (X.v (A.mov (O.k (V.int IntKind.i64 (Int.ofNat 0))))))] []) AC.ret)
def A114_11 : AC := (AC.seq (AC.seq (AC.reg [] [(I.mk (some 17) none false (X.v (A.mov (O.t 0)))), (I.mk (some 18) none false (X.v (A.mov (O.t 1)))), (I.mk (some 19) none false (X.v (A.bin BinOp.gtr (O.t 17) (O.t 18))))] []) A114_12) A114_13)
def A114_9 : AC := (AC.seq (AC.seq (AC.reg [] [(I.mk (some 14) none false (X.v (A.mov (O.t 0)))), (I.mk (some 15) none false (X.v (A.mov (O.t 1)))), (I.mk (some 16) none false (X.v (A.bin BinOp.lss (O.t 14) (O.t 15))))] []) A114_10) A114_11)
def A114_7 : AC := (AC.seq (AC.seq (AC.reg [] [(I.mk (some 13) none false (X.v (A.mov (O.t 6))))] []) A114_8) A114_9)
def A114_3 : AC := (AC.seq (AC.seq (AC.reg [] [(I.mk (some 11) none false (X.v (A.mov (O.t 5))))] []) A114_4) A114_7)
def A114_2 : AC := (AC.seq (AC.reg [] [(I.mk (some 9) none false (X.v (A.mov (O.t 1)))), (I.mk (some 10) none false (X.call (O.k (V.fn 131 [] [])) [(O.t 9)])), (I.mk (some 6) none false (X.v (A.mov (O.t 10))))] []) A114_3)
def A114_1 : AC := (AC.seq (AC.reg [] [(I.mk (some 7) none false (X.v (A.mov (O.t 0)))), (I.mk (some 8) none false (X.call (O.k (V.fn 131 [] [])) [(O.t 7)])), (I.mk (some 5) none false (X.v (A.mov (O.t 8))))] []) A114_2)
def A114 : AC := (AC.seq (AC.reg [] [(I.mk (some 4) none false (X.v (A.mov (O.k (V.int IntKind.i64 (Int.ofNat 0))))))] []) A114_1)
def an114 : List An := []
theorem c114 : cC Try.prog Try.f114.ntmps an114 (Try.f114.body.getD .skip) = some A114 := by kernel_rfl
structure H114 (D : Den) (σ : Sig) (F : Nat) : Prop where
  c131 : ∀ (x0 : Int) r, cmp_isNaN_int F x0 = some r → D 131 [Enc.enc x0] = some (Enc.enc (r : Bool))
  g131 : σ 131 = some (0, false)
abbrev R114 (r : Int) : (Nat → V) → Prop := RR Try.prog [.tmp 4] 0 false (Enc.enc (r : Int))
section
variable {D : Den} {σ : Sig} {F : Nat} {r : Int}
def cmp_Compare_int (F : Nat) (x_1 : Int) (y_2 : Int) : Option Int :=
  (cmp_isNaN_int F x_1).bind fun r_3 =>
  (cmp_isNaN_int F y_2).bind fun r_4 =>
  bif r_3 then
    bif r_4 then
      some 0
    else
      some (-1)
  else
    bif r_4 then
      some 1
    else
      bif decide (x_1 < y_2) then
        some (-1)
      else
        bif decide (x_1 > y_2) then
          some 1
        else
          some 0
theorem t114 (H : H114 D σ F) (x_1 : Int) (y_2 : Int) (s : Nat → V) (hs : Facts [(0, (.int .i64 x_1)), (1, (.int .i64 y_2))] s) (h : cmp_Compare_int F x_1 y_2 = some r) : Run D σ (R114 r) (.run A114 []) s := by
  unfold cmp_Compare_int at h
  obtain ⟨h0, h1⟩ := hs
  refine .seq ?_
  refine run_reg ?_
  refine e_end ?_
  refine g_v0 (.int .i64 0) rfl rfl ?_
  refine g_end ?_
  refine e_end ?_
  refine renew [(0, (.int .i64 x_1)), (1, (.int .i64 y_2)), (4, (.int .i64 0))] ⟨h0, h1, rfl⟩ ?_
  rintro s ⟨h0, h1, h4⟩
  refine .nsq ?_
  refine .seq ?_
  refine run_reg ?_
  refine e_end ?_
  refine g_v1 (t := 0) (u := (.int .i64 x_1)) (.int .i64 x_1) h0 rfl rfl ?_
  obtain ⟨r_3, E_r_3, h⟩ := bind_some h
  refine g_call (m := 0) (al := false) (r := (Enc.enc (r_3 : Bool))) [Enc.enc (x_1 : Int)] (ta_cons (v := (.int .i64 x_1)) rfl rfl rfl ta_nil) (H.c131 _ _ E_r_3) H.g131 rfl rfl rfl rfl ?_
  refine g_v1 (t := 8) (u := (.bool r_3)) (.bool r_3) rfl rfl rfl ?_
  refine g_end ?_
  refine e_end ?_
  refine renew [(0, (.int .i64 x_1)), (1, (.int .i64 y_2)), (4, (.int .i64 0)), (5, (.bool r_3))] ⟨h0, h1, h4, rfl⟩ ?_
  rintro s ⟨h0, h1, h4, h5⟩
  refine .nsq ?_
  refine .seq ?_
  refine run_reg ?_
  refine e_end ?_
  refine g_v1 (t := 1) (u := (.int .i64 y_2)) (.int .i64 y_2) h1 rfl rfl ?_
  obtain ⟨r_4, E_r_4, h⟩ := bind_some h
  refine g_call (m := 0) (al := false) (r := (Enc.enc (r_4 : Bool))) [Enc.enc (y_2 : Int)] (ta_cons (v := (.int .i64 y_2)) rfl rfl rfl ta_nil) (H.c131 _ _ E_r_4) H.g131 rfl rfl rfl rfl ?_
  refine g_v1 (t := 10) (u := (.bool r_4)) (.bool r_4) rfl rfl rfl ?_
  refine g_end ?_
  refine e_end ?_
  refine renew [(0, (.int .i64 x_1)), (1, (.int .i64 y_2)), (4, (.int .i64 0)), (5, (.bool r_3)), (6, (.bool r_4))] ⟨h0, h1, h4, h5, rfl⟩ ?_
  rintro s ⟨h0, h1, h4, h5, h6⟩
  refine .nsq ?_
  refine .seq ?_
  refine .seq ?_
  refine run_reg ?_
  refine e_end ?_
  refine g_v1 (t := 5) (u := (.bool r_3)) (.bool r_3) h5 rfl rfl ?_
  refine g_end ?_
  refine e_end ?_
  refine renew [(0, (.int .i64 x_1)), (1, (.int .i64 y_2)), (4, (.int .i64 0)), (6, (.bool r_4)), (11, (.bool r_3))] ⟨h0, h1, h4, h6, rfl⟩ ?_
  rintro s ⟨h0, h1, h4, h6, h11⟩
  refine .nsq ?_
  refine run_cond (t := r_3) h11 h (fun h => ?_) (fun h => ?_)
  · refine .seq ?_
    refine .seq ?_
    refine run_reg ?_
    refine e_end ?_
    refine g_v1 (t := 6) (u := (.bool r_4)) (.bool r_4) h6 rfl rfl ?_
    refine g_end ?_
    refine e_end ?_
    refine renew [(0, (.int .i64 x_1)), (1, (.int .i64 y_2)), (4, (.int .i64 0)), (6, (.bool r_4)), (12, (.bool r_4))] ⟨h0, h1, h4, h6, rfl⟩ ?_
    rintro s ⟨h0, h1, h4, h6, h12⟩
    refine .nsq ?_
    refine run_cond (t := r_4) h12 h (fun h => ?_) (fun h => ?_)
    · refine .seq ?_
      refine run_reg ?_
      refine e_end ?_
      refine g_v0 (.int .i64 0) rfl rfl ?_
      refine g_end ?_
      refine e_end ?_
      refine renew [(0, (.int .i64 x_1)), (1, (.int .i64 y_2)), (4, (.int .i64 0)), (6, (.bool r_4))] ⟨h0, h1, rfl, h6⟩ ?_
      rintro s ⟨h0, h1, h4, h6⟩
      refine .nsq ?_
      refine .ret ?_
      have hr := Option.some.inj h
      subst hr
      exact rrA (res_tmp h4) rfl
    · refine .skip ?_
      refine .nsq ?_
      refine .seq ?_
      refine run_reg ?_
      refine e_end ?_
      refine g_v0 (.int .i64 (-1)) rfl rfl ?_
      refine g_end ?_
      refine e_end ?_
      refine renew [(0, (.int .i64 x_1)), (1, (.int .i64 y_2)), (4, (.int .i64 (-1))), (6, (.bool r_4))] ⟨h0, h1, rfl, h6⟩ ?_
      rintro s ⟨h0, h1, h4, h6⟩
      refine .nsq ?_
      refine .ret ?_
      have hr := Option.some.inj h
      subst hr
      exact rrA (res_tmp h4) rfl
  · refine .skip ?_
    refine .nsq ?_
    refine .seq ?_
    refine .seq ?_
    refine run_reg ?_
    refine e_end ?_
    refine g_v1 (t := 6) (u := (.bool r_4)) (.bool r_4) h6 rfl rfl ?_
    refine g_end ?_
    refine e_end ?_
    refine renew [(0, (.int .i64 x_1)), (1, (.int .i64 y_2)), (4, (.int .i64 0)), (13, (.bool r_4))] ⟨h0, h1, h4, rfl⟩ ?_
    rintro s ⟨h0, h1, h4, h13⟩
    refine .nsq ?_
    refine run_cond (t := r_4) h13 h (fun h => ?_) (fun h => ?_)
    · refine .seq ?_
      refine run_reg ?_
      refine e_end ?_
      refine g_v0 (.int .i64 1) rfl rfl ?_
      refine g_end ?_
      refine e_end ?_
      refine renew [(0, (.int .i64 x_1)), (1, (.int .i64 y_2)), (4, (.int .i64 1))] ⟨h0, h1, rfl⟩ ?_
      rintro s ⟨h0, h1, h4⟩
      refine .nsq ?_
      refine .ret ?_
      have hr := Option.some.inj h
      subst hr
      exact rrA (res_tmp h4) rfl
    · refine .skip ?_
      refine .nsq ?_
      refine .seq ?_
      refine .seq ?_
      refine run_reg ?_
      refine e_end ?_
      refine g_v1 (t := 0) (u := (.int .i64 x_1)) (.int .i64 x_1) h0 rfl rfl ?_
      refine g_v1 (t := 1) (u := (.int .i64 y_2)) (.int .i64 y_2) h1 rfl rfl ?_
      refine g_v2 (t1 := 14) (t2 := 15) (u1 := (.int .i64 x_1)) (u2 := (.int .i64 y_2)) (.bool (decide (x_1 < y_2))) rfl rfl rfl rfl ?_
      refine g_end ?_
      refine e_end ?_
      refine renew [(0, (.int .i64 x_1)), (1, (.int .i64 y_2)), (4, (.int .i64 0)), (16, (.bool (decide (x_1 < y_2))))] ⟨h0, h1, h4, rfl⟩ ?_
      rintro s ⟨h0, h1, h4, h16⟩
      refine .nsq ?_
      refine run_cond (t := decide (x_1 < y_2)) h16 h (fun h => ?_) (fun h => ?_)
      · refine .seq ?_
        refine run_reg ?_
        refine e_end ?_
        refine g_v0 (.int .i64 (-1)) rfl rfl ?_
        refine g_end ?_
        refine e_end ?_
        refine renew [(0, (.int .i64 x_1)), (1, (.int .i64 y_2)), (4, (.int .i64 (-1)))] ⟨h0, h1, rfl⟩ ?_
        rintro s ⟨h0, h1, h4⟩
        refine .nsq ?_
        refine .ret ?_
        have hr := Option.some.inj h
        subst hr
        exact rrA (res_tmp h4) rfl
      · refine .skip ?_
        refine .nsq ?_
        refine .seq ?_
        refine .seq ?_
        refine run_reg ?_
        refine e_end ?_
        refine g_v1 (t := 0) (u := (.int .i64 x_1)) (.int .i64 x_1) h0 rfl rfl ?_
        refine g_v1 (t := 1) (u := (.int .i64 y_2)) (.int .i64 y_2) h1 rfl rfl ?_
        refine g_v2 (t1 := 17) (t2 := 18) (u1 := (.int .i64 x_1)) (u2 := (.int .i64 y_2)) (.bool (decide (x_1 > y_2))) rfl rfl rfl rfl ?_
        refine g_end ?_
        refine e_end ?_
        refine renew [(4, (.int .i64 0)), (19, (.bool (decide (x_1 > y_2))))] ⟨h4, rfl⟩ ?_
        rintro s ⟨h4, h19⟩
        refine .nsq ?_
        refine run_cond (t := decide (x_1 > y_2)) h19 h (fun h => ?_) (fun h => ?_)
        · refine .seq ?_
          refine run_reg ?_
          refine e_end ?_
          refine g_v0 (.int .i64 1) rfl rfl ?_
          refine g_end ?_
          refine e_end ?_
          refine renew [(4, (.int .i64 1))] rfl ?_
          rintro s h4
          refine .nsq ?_
          refine .ret ?_
          have hr := Option.some.inj h
          subst hr
          exact rrA (res_tmp h4) rfl
        · refine .skip ?_
          refine .nsq ?_
          refine .seq ?_
          refine run_reg ?_
          refine e_end ?_
          refine g_v0 (.int .i64 0) rfl rfl ?_
          refine g_end ?_
          refine e_end ?_
          refine renew [(4, (.int .i64 0))] rfl ?_
          rintro s h4
          refine .nsq ?_
          refine .ret ?_
          have hr := Option.some.inj h
          subst hr
          exact rrA (res_tmp h4) rfl
end
def e114 (F : Nat) : Ent := ⟨114, da (fun (x : (Int × Int × Unit)) => cmp_Compare_int F x.1 x.2.1) (fun (r : Int) => (Enc.enc (r : Int))), 0, false, selF []⟩
theorem p114 {F : Nat} {x0 : Int} {x1 : Int} {r : Int} (h : cmp_Compare_int F x0 x1 = some r) : (e114 F).den [Enc.enc x0, Enc.enc x1] = some (Enc.enc (r : Int)) := da_put (f := fun (x : (Int × Int × Unit)) => cmp_Compare_int F x.1 x.2.1) (t := fun (r : Int) => (Enc.enc (r : Int))) (x0, x1, ()) h
theorem o114 {D : Den} {σ : Sig} {F : Nat} (hF : Fits2 Try.prog D σ) (H : H114 D σ F) : (e114 F).Ok Try.prog := by
  refine ⟨fun args r h => ?_, ⟨Try.f114, Try.func114, rfl, rfl⟩⟩
  obtain ⟨⟨x0, x1, _⟩, y, rfl, hy, rfl⟩ := da_open h
  exact contract_run hF (by kernel_rfl) Try.func114 rfl c114 (show 2 ≤ Try.f114.ntmps by decide) (t114 H x0 x1 _ ⟨rfl, rfl⟩ hy)
/- slices.Compare[[]int,int] -/
def A81_5 : AC := (AC.cond (O.t 19) (AC.seq (AC.reg [] [(I.mk (some 4) none false (X.v (A.mov (O.k (V.int IntKind.i64 (Int.ofNat 1))))))] []) AC.ret) AC.skip)
def A81_9 : AC := (AC.cond (O.t 28) (AC.seq (AC.reg [] [(I.mk (some 29) none false (X.v (A.mov (O.t 8)))), (I.mk (some 4) none false (X.v (A.mov (O.t 29))))] []) AC.ret) AC.skip)
def A81_8 : AC := (AC.seq (AC.reg [] [(I.mk (some 27) none false (X.v (A.mov (O.t 8)))), (I.mk (some 28) none false (X.v (A.bin BinOp.neq (O.t 27) (O.k (V.int IntKind.i64 (Int.ofNat 0))))))] []) A81_9)
def A81_7 : AC := (AC.seq (AC.reg [] [(I.mk (some 24) none false (X.v (A.mov (O.t 6)))), (I.mk (some 25) none false (X.v (A.mov (O.t 7)))), (I.mk (some 26) none false (X.call (O.k (V.fn 114 [] [])) [(O.t 24), (O.t 25)])), (I.mk (some 8) none false (X.v (A.mov (O.t 26))))] []) A81_8)
def A81_6 : AC := (AC.seq (AC.reg [] [(I.mk (some 20) none false (X.v (A.mov (O.t 1)))), (I.mk (some 21) none false (X.v (A.mov (O.t 5)))), (I.mk (some 22) none false (X.v (A.idx (O.t 20) (O.t 21) 1))), (I.mk (some 23) none false (X.v (A.load Sh.s (O.t 22)))), (I.mk (some 7) none false (X.v (A.mov (O.t 23))))] []) A81_7)
def A81_4 : AC := (AC.seq (AC.seq (AC.reg [] [(I.mk (some 16) none false (X.v (A.mov (O.t 5)))), (I.mk (some 17) none false (X.v (A.mov (O.t 1)))), (I.mk (some 18) none false (X.v (A.len (O.t 17)))), (I.mk (some 19) none false (X.v (A.bin BinOp.geq (O.t 16) (O.t 18))))] []) A81_5) A81_6)
def A81_10 : AC := (AC.reg [] [(I.mk (some 30) none false (X.v (A.bin BinOp.add (O.t 11) (O.k (V.int IntKind.i64 (Int.ofNat 1)))))), (I.mk (some 11) none false (X.v (A.mov (O.t 30))))] [])
def A81_3 : AC := (AC.seq (AC.block 1 (AC.seq (AC.reg [] [(I.mk (some 13) none false (X.v (A.mov (O.t 11)))), (I.mk (some 14) none false (X.v (A.idx (O.t 9) (O.t 11) 1))), (I.mk (some 15) none false (X.v (A.load Sh.s (O.t 14)))), (I.mk (some 5) none false (X.v (A.mov (O.t 13)))), (I.mk (some 6) none false (X.v (A.mov (O.t 15))))] []) A81_4)) A81_10)
def A81_2 : AC := (AC.seq (AC.cond (O.t 12) AC.skip (AC.exit 0)) A81_3)
def A81_1 : AC := (AC.seq (AC.reg [] [(I.mk (some 12) none false (X.v (A.bin BinOp.lss (O.t 11) (O.t 10))))] []) A81_2)
def A81_12 : AC := (AC.cond (O.t 35) (AC.seq (AC.reg [] [(I.mk (some 4) none false (X.v (A.mov (O.k (V.int IntKind.i64 (Int.negSucc 0))))))] []) AC.ret) AC.skip)
def A81_13 : AC := (AC.seq (AC.reg [] [(I.mk (some 4) none false (X.v (A.mov (O.k (V.int IntKind.i64 (Int.ofNat 0))))))] []) AC.ret)
def A81_11 : AC := (AC.seq (AC.seq (AC.reg [] [(I.mk (some 31) none false (X.v (A.mov (O.t 0)))), (I.mk (some 32) none false (X.v (A.len (O.t 31)))), (I.mk (some 33) none false (X.v (A.mov (O.t 1)))), (I.mk (some 34) none false (X.v (A.len (O.t 33)))), (I.mk (some 35) none false (X.v (A.bin BinOp.lss (O.t 32) (O.t 34))))] []) A81_12) A81_13)
def A81_15 : AC := (AC.block 0 (AC.loop A81_1))
def A81_14 : AC := (AC.seq (AC.seq (AC.reg [] [(I.mk (some 9) none false (X.v (A.mov (O.t 0)))), (I.mk (some 10) none false (X.v (A.len (O.t 9)))), (I.mk (some 11) none false (X.v (A.mov (O.k (V.int IntKind.i64 (Int.ofNat 0))))))] []) A81_15) A81_11)
def A81 : AC := (AC.seq (AC.reg [] [(I.mk (some 4) none false (X.v (A.mov (O.k (V.int IntKind.i64 (Int.ofNat 0))))))] []) A81_14)
def an81 : List An := []
theorem c81 : cC Try.prog Try.f81.ntmps an81 (Try.f81.body.getD .skip) = some A81 := by kernel_rfl
structure H81 (D : Den) (σ : Sig) (F : Nat) : Prop where
  c114 : ∀ (x0 : Int) (x1 : Int) r, cmp_Compare_int F x0 x1 = some r → D 114 [Enc.enc x0, Enc.enc x1] = some (Enc.enc (r : Int))
  g114 : σ 114 = some (0, false)
abbrev R81 (r : Int) : (Nat → V) → Prop := RR Try.prog [.tmp 4] 0 false (Enc.enc (r : Int))
section
variable {D : Den} {σ : Sig} {F : Nat} {r : Int}
def slices_Compare_l1 (F : Nat) (s1_1 : (List Int)) (s2_2 : (List Int))  : Nat → Int → Option Int
  | 0, _ => none
  | k + 1, t11_6 =>
    bif decide (t11_6 < (s1_1.length : Int)) then
      (idx s1_1 t11_6).bind fun e_10 =>
      bif decide (t11_6 ≥ (s2_2.length : Int)) then
        some 1
      else
        (idx s2_2 t11_6).bind fun e_11 =>
        (cmp_Compare_int F e_10 e_11).bind fun r_12 =>
        bif (r_12 != 0) then
          some r_12
        else
          (slices_Compare_l1 F s1_1 s2_2 k) (w64 (t11_6 + 1))
    else
      bif decide ((s1_1.length : Int) < (s2_2.length : Int)) then
        some (-1)
      else
        some 0
theorem t_f81_l1 (H : H81 D σ F) (s1_1 : (List Int)) (s2_2 : (List Int))  : ∀ (k : Nat) (t11_6 : Int) (s : Nat → V), Facts [(0, (Enc.enc (s1_1 : List Int))), (1, (Enc.enc (s2_2 : List Int))), (4, (.int .i64 0)), (9, (Enc.enc (s1_1 : List Int))), (10, (.int .i64 (s1_1.length : Int))), (11, (.int .i64 t11_6))] s → slices_Compare_l1 F s1_1 s2_2 k t11_6 = some r → Run D σ (R81 r) (.run A81_1 [.lp A81_1, .bk 0, .sq A81_11]) s := by
  intro k
  induction k with
  | zero => intro t11_6 s _ h; exact nomatch (h : (none : Option _) = some r)
  | succ k ih =>
    intro t11_6 s hs h
    rw [slices_Compare_l1] at h
    obtain ⟨h0, h1, h4, h9, h10, h11⟩ := hs
    refine .seq ?_
    refine run_reg ?_
    refine e_end ?_
    refine g_v2 (t1 := 11) (t2 := 10) (u1 := (.int .i64 t11_6)) (u2 := (.int .i64 (s1_1.length : Int))) (.bool (decide (t11_6 < (s1_1.length : Int)))) h11 h10 rfl rfl ?_
    refine g_end ?_
    refine e_end ?_
    refine renew [(0, (Enc.enc (s1_1 : List Int))), (1, (Enc.enc (s2_2 : List Int))), (4, (.int .i64 0)), (9, (Enc.enc (s1_1 : List Int))), (10, (.int .i64 (s1_1.length : Int))), (11, (.int .i64 t11_6)), (12, (.bool (decide (t11_6 < (s1_1.length : Int)))))] ⟨h0, h1, h4, h9, h10, h11, rfl⟩ ?_
    rintro s ⟨h0, h1, h4, h9, h10, h11, h12⟩
    refine .nsq ?_
    refine .seq ?_
    refine run_cond (t := decide (t11_6 < (s1_1.length : Int))) h12 h (fun h => ?_) (fun h => ?_)
    · refine .skip ?_
      refine .nsq ?_
      refine .seq ?_
      refine .block ?_
      refine .seq ?_
      refine run_reg ?_
      refine e_end ?_
      refine g_v1 (t := 11) (u := (.int .i64 t11_6)) (.int .i64 t11_6) h11 rfl rfl ?_
      obtain ⟨e_10, E_e_10, h⟩ := bind_some h
      refine g_v (.ref .sh 0 [] (.int .i64 e_10)) (ev_idx (t := .sh) (lo := 0) (xs := s1_1) h9 h11 E_e_10 rfl rfl) ?_
      refine g_v1 (t := 14) (u := (.ref .sh 0 [] (.int .i64 e_10))) (.int .i64 e_10) rfl rfl rfl ?_
      refine g_v1 (t := 13) (u := (.int .i64 t11_6)) (.int .i64 t11_6) rfl rfl rfl ?_
      refine g_v1 (t := 15) (u := (.int .i64 e_10)) (.int .i64 e_10) rfl rfl rfl ?_
      refine g_end ?_
      refine e_end ?_
      refine renew [(0, (Enc.enc (s1_1 : List Int))), (1, (Enc.enc (s2_2 : List Int))), (4, (.int .i64 0)), (5, (.int .i64 t11_6)), (6, (.int .i64 e_10)), (9, (Enc.enc (s1_1 : List Int))), (10, (.int .i64 (s1_1.length : Int))), (11, (.int .i64 t11_6))] ⟨h0, h1, h4, rfl, rfl, h9, h10, h11⟩ ?_
      rintro s ⟨h0, h1, h4, h5, h6, h9, h10, h11⟩
      refine .nsq ?_
      refine .seq ?_
      refine .seq ?_
      refine run_reg ?_
      refine e_end ?_
      refine g_v1 (t := 5) (u := (.int .i64 t11_6)) (.int .i64 t11_6) h5 rfl rfl ?_
      refine g_v1 (t := 1) (u := (Enc.enc (s2_2 : List Int))) (Enc.enc (s2_2 : List Int)) h1 rfl rfl ?_
      refine g_v (.int .i64 (s2_2.length : Int)) (ev_len (xs := s2_2) rfl) ?_
      refine g_v2 (t1 := 16) (t2 := 18) (u1 := (.int .i64 t11_6)) (u2 := (.int .i64 (s2_2.length : Int))) (.bool (decide (t11_6 ≥ (s2_2.length : Int)))) rfl rfl rfl rfl ?_
      refine g_end ?_
      refine e_end ?_
      refine renew [(0, (Enc.enc (s1_1 : List Int))), (1, (Enc.enc (s2_2 : List Int))), (4, (.int .i64 0)), (5, (.int .i64 t11_6)), (6, (.int .i64 e_10)), (9, (Enc.enc (s1_1 : List Int))), (10, (.int .i64 (s1_1.length : Int))), (11, (.int .i64 t11_6)), (19, (.bool (decide (t11_6 ≥ (s2_2.length : Int)))))] ⟨h0, h1, h4, h5, h6, h9, h10, h11, rfl⟩ ?_
      rintro s ⟨h0, h1, h4, h5, h6, h9, h10, h11, h19⟩
      refine .nsq ?_
      refine run_cond (t := decide (t11_6 ≥ (s2_2.length : Int))) h19 h (fun h => ?_) (fun h => ?_)
      · refine .seq ?_
        refine run_reg ?_
        refine e_end ?_
        refine g_v0 (.int .i64 1) rfl rfl ?_
        refine g_end ?_
        refine e_end ?_
        refine renew [(0, (Enc.enc (s1_1 : List Int))), (1, (Enc.enc (s2_2 : List Int))), (4, (.int .i64 1)), (5, (.int .i64 t11_6)), (6, (.int .i64 e_10)), (9, (Enc.enc (s1_1 : List Int))), (10, (.int .i64 (s1_1.length : Int))), (11, (.int .i64 t11_6))] ⟨h0, h1, rfl, h5, h6, h9, h10, h11⟩ ?_
        rintro s ⟨h0, h1, h4, h5, h6, h9, h10, h11⟩
        refine .nsq ?_
        refine .ret ?_
        have hr := Option.some.inj h
        subst hr
        exact rrA (res_tmp h4) rfl
      · refine .skip ?_
        refine .nsq ?_
        refine .seq ?_
        refine run_reg ?_
        refine e_end ?_
        refine g_v1 (t := 1) (u := (Enc.enc (s2_2 : List Int))) (Enc.enc (s2_2 : List Int)) h1 rfl rfl ?_
        refine g_v1 (t := 5) (u := (.int .i64 t11_6)) (.int .i64 t11_6) h5 rfl rfl ?_
        obtain ⟨e_11, E_e_11, h⟩ := bind_some h
        refine g_v (.ref .sh 0 [] (.int .i64 e_11)) (ev_idx (t := .sh) (lo := 0) (xs := s2_2) rfl rfl E_e_11 rfl rfl) ?_
        refine g_v1 (t := 22) (u := (.ref .sh 0 [] (.int .i64 e_11))) (.int .i64 e_11) rfl rfl rfl ?_
        refine g_v1 (t := 23) (u := (.int .i64 e_11)) (.int .i64 e_11) rfl rfl rfl ?_
        refine g_end ?_
        refine e_end ?_
        refine renew [(0, (Enc.enc (s1_1 : List Int))), (1, (Enc.enc (s2_2 : List Int))), (4, (.int .i64 0)), (6, (.int .i64 e_10)), (7, (.int .i64 e_11)), (9, (Enc.enc (s1_1 : List Int))), (10, (.int .i64 (s1_1.length : Int))), (11, (.int .i64 t11_6))] ⟨h0, h1, h4, h6, rfl, h9, h10, h11⟩ ?_
        rintro s ⟨h0, h1, h4, h6, h7, h9, h10, h11⟩
        refine .nsq ?_
        refine .seq ?_
        refine run_reg ?_
        refine e_end ?_
        refine g_v1 (t := 6) (u := (.int .i64 e_10)) (.int .i64 e_10) h6 rfl rfl ?_
        refine g_v1 (t := 7) (u := (.int .i64 e_11)) (.int .i64 e_11) h7 rfl rfl ?_
        obtain ⟨r_12, E_r_12, h⟩ := bind_some h
        refine g_call (m := 0) (al := false) (r := (Enc.enc (r_12 : Int))) [Enc.enc (e_10 : Int), Enc.enc (e_11 : Int)] (ta_cons (v := (.int .i64 e_10)) rfl rfl rfl (ta_cons (v := (.int .i64 e_11)) rfl rfl rfl ta_nil)) (H.c114 _ _ _ E_r_12) H.g114 rfl rfl rfl rfl ?_
        refine g_v1 (t := 26) (u := (.int .i64 r_12)) (.int .i64 r_12) rfl rfl rfl ?_
        refine g_end ?_
        refine e_end ?_
        refine renew [(0, (Enc.enc (s1_1 : List Int))), (1, (Enc.enc (s2_2 : List Int))), (4, (.int .i64 0)), (8, (.int .i64 r_12)), (9, (Enc.enc (s1_1 : List Int))), (10, (.int .i64 (s1_1.length : Int))), (11, (.int .i64 t11_6))] ⟨h0, h1, h4, rfl, h9, h10, h11⟩ ?_
        rintro s ⟨h0, h1, h4, h8, h9, h10, h11⟩
        refine .nsq ?_
        refine .seq ?_
        refine run_reg ?_
        refine e_end ?_
        refine g_v1 (t := 8) (u := (.int .i64 r_12)) (.int .i64 r_12) h8 rfl rfl ?_
        refine g_v1 (t := 27) (u := (.int .i64 r_12)) (.bool (r_12 != 0)) rfl rfl rfl ?_
        refine g_end ?_
        refine e_end ?_
        refine renew [(0, (Enc.enc (s1_1 : List Int))), (1, (Enc.enc (s2_2 : List Int))), (4, (.int .i64 0)), (8, (.int .i64 r_12)), (9, (Enc.enc (s1_1 : List Int))), (10, (.int .i64 (s1_1.length : Int))), (11, (.int .i64 t11_6)), (28, (.bool (r_12 != 0)))] ⟨h0, h1, h4, h8, h9, h10, h11, rfl⟩ ?_
        rintro s ⟨h0, h1, h4, h8, h9, h10, h11, h28⟩
        refine .nsq ?_
        refine run_cond (t := (r_12 != 0)) h28 h (fun h => ?_) (fun h => ?_)
        · refine .seq ?_
          refine run_reg ?_
          refine e_end ?_
          refine g_v1 (t := 8) (u := (.int .i64 r_12)) (.int .i64 r_12) h8 rfl rfl ?_
          refine g_v1 (t := 29) (u := (.int .i64 r_12)) (.int .i64 r_12) rfl rfl rfl ?_
          refine g_end ?_
          refine e_end ?_
          refine renew [(0, (Enc.enc (s1_1 : List Int))), (1, (Enc.enc (s2_2 : List Int))), (4, (.int .i64 r_12)), (9, (Enc.enc (s1_1 : List Int))), (10, (.int .i64 (s1_1.length : Int))), (11, (.int .i64 t11_6))] ⟨h0, h1, rfl, h9, h10, h11⟩ ?_
          rintro s ⟨h0, h1, h4, h9, h10, h11⟩
          refine .nsq ?_
          refine .ret ?_
          have hr := Option.some.inj h
          subst hr
          exact rrA (res_tmp h4) rfl
        · refine .skip ?_
          refine .nbk ?_
          refine .nsq ?_
          refine run_reg ?_
          refine e_end ?_
          refine g_v1 (t := 11) (u := (.int .i64 t11_6)) (.int .i64 (w64 (t11_6 + 1))) h11 rfl rfl ?_
          refine g_v1 (t := 30) (u := (.int .i64 (w64 (t11_6 + 1)))) (.int .i64 (w64 (t11_6 + 1))) rfl rfl rfl ?_
          refine g_end ?_
          refine e_end ?_
          refine renew [(0, (Enc.enc (s1_1 : List Int))), (1, (Enc.enc (s2_2 : List Int))), (4, (.int .i64 0)), (9, (Enc.enc (s1_1 : List Int))), (10, (.int .i64 (s1_1.length : Int))), (11, (.int .i64 (w64 (t11_6 + 1))))] ⟨h0, h1, h4, h9, h10, rfl⟩ ?_
          rintro s ⟨h0, h1, h4, h9, h10, h11⟩
          refine .nlp ?_
          exact ih (w64 (t11_6 + 1)) _ ⟨h0, h1, h4, h9, h10, h11⟩ h
    · refine .exit ?_
      refine .esq ?_
      refine .elp ?_
      refine .ebk ?_
      refine .nsq ?_
      refine .seq ?_
      refine .seq ?_
      refine run_reg ?_
      refine e_end ?_
      refine g_v1 (t := 0) (u := (Enc.enc (s1_1 : List Int))) (Enc.enc (s1_1 : List Int)) h0 rfl rfl ?_
      refine g_v (.int .i64 (s1_1.length : Int)) (ev_len (xs := s1_1) rfl) ?_
      refine g_v1 (t := 1) (u := (Enc.enc (s2_2 : List Int))) (Enc.enc (s2_2 : List Int)) h1 rfl rfl ?_
      refine g_v (.int .i64 (s2_2.length : Int)) (ev_len (xs := s2_2) rfl) ?_
      refine g_v2 (t1 := 32) (t2 := 34) (u1 := (.int .i64 (s1_1.length : Int))) (u2 := (.int .i64 (s2_2.length : Int))) (.bool (decide ((s1_1.length : Int) < (s2_2.length : Int)))) rfl rfl rfl rfl ?_
      refine g_end ?_
      refine e_end ?_
      refine renew [(4, (.int .i64 0)), (35, (.bool (decide ((s1_1.length : Int) < (s2_2.length : Int)))))] ⟨h4, rfl⟩ ?_
      rintro s ⟨h4, h35⟩
      refine .nsq ?_
      refine run_cond (t := decide ((s1_1.length : Int) < (s2_2.length : Int))) h35 h (fun h => ?_) (fun h => ?_)
      · refine .seq ?_
        refine run_reg ?_
        refine e_end ?_
        refine g_v0 (.int .i64 (-1)) rfl rfl ?_
        refine g_end ?_
        refine e_end ?_
        refine renew [(4, (.int .i64 (-1)))] rfl ?_
        rintro s h4
        refine .nsq ?_
        refine .ret ?_
        have hr := Option.some.inj h
        subst hr
        exact rrA (res_tmp h4) rfl
      · refine .skip ?_
        refine .nsq ?_
        refine .seq ?_
        refine run_reg ?_
        refine e_end ?_
        refine g_v0 (.int .i64 0) rfl rfl ?_
        refine g_end ?_
        refine e_end ?_
        refine renew [(4, (.int .i64 0))] rfl ?_
        rintro s h4
        refine .nsq ?_
        refine .ret ?_
        have hr := Option.some.inj h
        subst hr
        exact rrA (res_tmp h4) rfl
def slices_Compare (F : Nat) (s1_1 : (List Int)) (s2_2 : (List Int)) : Option Int :=
  slices_Compare_l1 F s1_1 s2_2 F 0
theorem t81 (H : H81 D σ F) (s1_1 : (List Int)) (s2_2 : (List Int)) (s : Nat → V) (hs : Facts [(0, (Enc.enc (s1_1 : List Int))), (1, (Enc.enc (s2_2 : List Int)))] s) (h : slices_Compare F s1_1 s2_2 = some r) : Run D σ (R81 r) (.run A81 []) s := by
  unfold slices_Compare at h
  obtain ⟨h0, h1⟩ := hs
  refine .seq ?_
  refine run_reg ?_
  refine e_end ?_
  refine g_v0 (.int .i64 0) rfl rfl ?_
  refine g_end ?_
  refine e_end ?_
  refine renew [(0, (Enc.enc (s1_1 : List Int))), (1, (Enc.enc (s2_2 : List Int))), (4, (.int .i64 0))] ⟨h0, h1, rfl⟩ ?_
  rintro s ⟨h0, h1, h4⟩
  refine .nsq ?_
  refine .seq ?_
  refine .seq ?_
  refine run_reg ?_
  refine e_end ?_
  refine g_v1 (t := 0) (u := (Enc.enc (s1_1 : List Int))) (Enc.enc (s1_1 : List Int)) h0 rfl rfl ?_
  refine g_v (.int .i64 (s1_1.length : Int)) (ev_len (xs := s1_1) rfl) ?_
  refine g_v0 (.int .i64 0) rfl rfl ?_
  refine g_end ?_
  refine e_end ?_
  refine renew [(0, (Enc.enc (s1_1 : List Int))), (1, (Enc.enc (s2_2 : List Int))), (4, (.int .i64 0)), (9, (Enc.enc (s1_1 : List Int))), (10, (.int .i64 (s1_1.length : Int))), (11, (.int .i64 0))] ⟨h0, h1, h4, rfl, rfl, rfl⟩ ?_
  rintro s ⟨h0, h1, h4, h9, h10, h11⟩
  refine .nsq ?_
  refine .block ?_
  refine .loop ?_
  exact t_f81_l1 H s1_1 s2_2 F 0 _ ⟨h0, h1, h4, h9, h10, h11⟩ h
end
def e81 (F : Nat) : Ent := ⟨81, da (fun (x : ((List Int) × (List Int) × Unit)) => slices_Compare F x.1 x.2.1) (fun (r : Int) => (Enc.enc (r : Int))), 0, false, selF []⟩
theorem p81 {F : Nat} {x0 : (List Int)} {x1 : (List Int)} {r : Int} (h : slices_Compare F x0 x1 = some r) : (e81 F).den [Enc.enc x0, Enc.enc x1] = some (Enc.enc (r : Int)) := da_put (f := fun (x : ((List Int) × (List Int) × Unit)) => slices_Compare F x.1 x.2.1) (t := fun (r : Int) => (Enc.enc (r : Int))) (x0, x1, ()) h
theorem o81 {D : Den} {σ : Sig} {F : Nat} (hF : Fits2 Try.prog D σ) (H : H81 D σ F) : (e81 F).Ok Try.prog := by
  refine ⟨fun args r h => ?_, ⟨Try.f81, Try.func81, rfl, rfl⟩⟩
  obtain ⟨⟨x0, x1, _⟩, y, rfl, hy, rfl⟩ := da_open h
  exact contract_run hF (by kernel_rfl) Try.func81 rfl c81 (show 2 ≤ Try.f81.ntmps by decide) (t81 H x0 x1 _ ⟨rfl, rfl⟩ hy)
/- loop.example/g01109/impl.IsGraph -/
def A53_5 : AC := (AC.cond (O.t 48) (AC.seq (AC.reg [] [(I.mk (some 2) none false (X.v (A.mov (O.k (V.bool false)))))] []) AC.ret) AC.skip)
def A53_4 : AC := (AC.seq (AC.reg [] [(I.mk (some 17) none false (X.v (A.idxA (O.t 4) (O.k (V.int IntKind.i64 (Int.ofNat 0))) 2 1))), (I.mk (some 18) none false (X.v (A.load Sh.s (O.t 17)))), (I.mk (some 19) none false (X.v (A.bin BinOp.lss (O.t 18) (O.k (V.int IntKind.i64 (Int.ofNat 0)))))), (I.mk (some 20) none false (X.v (A.mov (O.t 19)))), (I.mk (some 21) (some (20, false)) false (X.v (A.idxA (O.t 4) (O.k (V.int IntKind.i64 (Int.ofNat 0))) 2 1))), (I.mk (some 22) (some (20, false)) false (X.v (A.load Sh.s (O.t 21)))), (I.mk (some 23) (some (20, false)) false (X.v (A.idxA (O.t 4) (O.k (V.int IntKind.i64 (Int.ofNat 1))) 2 1))), (I.mk (some 24) (some (20, false)) false (X.v (A.load Sh.s (O.t 23)))), (I.mk (some 25) (some (20, false)) false (X.v (A.bin BinOp.geq (O.t 22) (O.t 24)))), (I.mk (some 26) none false (X.v (A.pick (O.t 20) (O.k (V.bool true)) (O.t 25)))), (I.mk (some 27) none false (X.v (A.mov (O.t 26)))), (I.mk (some 28) (some (27, false)) false (X.v (A.idxA (O.t 4) (O.k (V.int IntKind.i64 (Int.ofNat 1))) 2 1))), (I.mk (some 29) (some (27, false)) false (X.v (A.load Sh.s (O.t 28)))), (I.mk (some 30) (some (27, false)) false (X.v (A.fld (O.t 1) 0 0))), (I.mk (some 31) (some (27, false)) false (X.v (A.load Sh.s (O.t 30)))), (I.mk (some 32) (some (27, false)) false (X.v (A.bin BinOp.geq (O.t 29) (O.t 31)))), (I.mk (some 33) none false (X.v (A.pick (O.t 27) (O.k (V.bool true)) (O.t 32)))), (I.mk (some 34) none false (X.v (A.mov (O.t 33)))), (I.mk (some 35) (some (34, false)) false (X.v (A.mov (O.t 3)))), (I.mk (some 36) (some (34, false)) false (X.v (A.bin BinOp.gtr (O.t 35) (O.k (V.int IntKind.i64 (Int.ofNat 0)))))), (I.mk (some 37) (some (34, false)) false (X.v (A.mov (O.t 36)))), (I.mk (some 38) (some (37, true)) false (X.v (A.fld (O.t 1) 1 1))), (I.mk (some 39) (some (37, true)) false (X.v (A.load Sh.p (O.t 38)))), (I.mk (some 40) (some (37, true)) false (X.v (A.mov (O.t 3)))), (I.mk (some 41) (some (37, true)) false (X.v (A.bin BinOp.sub (O.t 40) (O.k (V.int IntKind.i64 (Int.ofNat 1)))))), (I.mk (some 42) (some (37, true)) false (X.v (A.idx (O.t 39) (O.t 41) 2))), (I.mk (some 43) (some (37, true)) false (X.v (A.sliceA (O.t 42) 2 Sh.s))), (I.mk (some 44) (some (37, true)) false (X.v (A.sliceA (O.t 4) 2 Sh.s))), (I.mk (some 45) (some (37, true)) false (X.call (O.k (V.fn 81 [] [])) [(O.t 43), (O.t 44)])), (I.mk (some 46) (some (37, true)) false (X.v (A.bin BinOp.geq (O.t 45) (O.k (V.int IntKind.i64 (Int.ofNat 0)))))), (I.mk (some 47) (some (34, false)) false (X.v (A.pick (O.t 37) (O.t 46) (O.k (V.bool false))))), (I.mk (some 48) none false (X.v (A.pick (O.t 34) (O.k (V.bool true)) (O.t 47))))] []) A53_5)
def A53_6 : AC := (AC.reg [] [(I.mk (some 49) none false (X.v (A.bin BinOp.add (O.t 12) (O.k (V.int IntKind.i64 (Int.ofNat 1)))))), (I.mk (some 12) none false (X.v (A.mov (O.t 49))))] [])
def A53_3 : AC := (AC.seq (AC.block 1 (AC.seq (AC.reg [.clr [4]] [(I.mk (some 14) none false (X.v (A.mov (O.t 12)))), (I.mk (some 15) none false (X.v (A.idx (O.t 10) (O.t 12) 2))), (I.mk (some 16) none false (X.v (A.load (Sh.ag [Sh.s, Sh.s]) (O.t 15)))), (I.mk (some 4) none false (X.alloc (V.agg [(V.int IntKind.i64 (Int.ofNat 0)), (V.int IntKind.i64 (Int.ofNat 0))]))), (I.mk (some 3) none false (X.v (A.mov (O.t 14)))), (I.mk none none false (X.store (Sh.ag [Sh.s, Sh.s]) (O.t 4) (O.t 16)))] []) A53_4)) A53_6)
def A53_2 : AC := (AC.seq (AC.cond (O.t 13) AC.skip (AC.exit 0)) A53_3)
def A53_1 : AC := (AC.seq (AC.reg [] [(I.mk (some 13) none false (X.v (A.bin BinOp.lss (O.t 12) (O.t 11))))] []) A53_2)
def A53_7 : AC := (AC.seq (AC.reg [] [(I.mk (some 2) none false (X.v (A.mov (O.k (V.bool true)))))] []) AC.ret)
def A53_9 : AC := (AC.cond (O.t 8) (AC.seq (AC.reg [] [(I.mk (some 2) none false (X.v (A.mov (O.k (V.bool false)))))] []) AC.ret) AC.skip)
def A53_11 : AC := (AC.block 0 (AC.loop A53_1))
def A53_10 : AC := (AC.seq (AC.seq (AC.reg [] [(I.mk (some 9) none false (X.v (A.fld (O.t 1) 1 1))), (I.mk (some 10) none false (X.v (A.load Sh.p (O.t 9)))), (I.mk (some 11) none false (X.v (A.len (O.t 10)))), (I.mk (some 12) none false (X.v (A.mov (O.k (V.int IntKind.i64 (Int.ofNat 0))))))] []) A53_11) A53_7)
def A53_8 : AC := (AC.seq (AC.seq (AC.reg [] [(I.mk (some 5) none false (X.v (A.fld (O.t 1) 0 0))), (I.mk (some 6) none false (X.v (A.load Sh.s (O.t 5)))), (I.mk (some 7) none false (X.call (O.k (V.fn 62 [] [])) [(O.t 6), (O.k (V.int IntKind.i64 (Int.ofNat 0))), (O.k (V.int IntKind.i64 (Int.ofNat 8)))])), (I.mk (some 8) none false (X.v (A.un UnOp.not (O.t 7))))] []) A53_9) A53_10)
def A53 : AC := (AC.seq (AC.reg [.clr [1]] [(I.mk (some 1) none false (X.box (O.t 0))), (I.mk (some 2) none false (X.v (A.mov (O.k (V.bool false)))))] []) A53_8)
def an53 : List An := [{ id := 0, pre := [.clr [1]], ep := [], lin := [], sp := [] }, { id := 5, pre := [.clr [4]], ep := [], lin := [], sp := [] }]
theorem c53 : cC Try.prog Try.f53.ntmps an53 (Try.f53.body.getD .skip) = some A53 := by kernel_rfl
structure H53 (D : Den) (σ : Sig) (F : Nat) : Prop where
  c62 : ∀ (x0 : Int) (x1 : Int) (x2 : Int) r, i_within F x0 x1 x2 = some r → D 62 [Enc.enc x0, Enc.enc x1, Enc.enc x2] = some (Enc.enc (r : Bool))
  g62 : σ 62 = some (0, false)
  c81 : ∀ (x0 : (List Int)) (x1 : (List Int)) r, slices_Compare F x0 x1 = some r → D 81 [Enc.enc x0, Enc.enc x1] = some (Enc.enc (r : Int))
  g81 : σ 81 = some (0, false)
abbrev R53 (r : Bool) : (Nat → V) → Prop := RR Try.prog [.tmp 2] 0 false (Enc.enc (r : Bool))
section
variable {D : Den} {σ : Sig} {F : Nat} {r : Bool}
def i_IsGraph_j1 (F : Nat) (g_1 : (Int × (List (Int × Int)))) (t12_9 : Int) (c1 : Int → Option Bool) (t48_19 : Bool) : Option Bool :=
  bif t48_19 then
    some false
  else
    c1 (w64 (t12_9 + 1))
theorem t_f53_j1 (H : H53 D σ F) (g_1 : (Int × (List (Int × Int)))) (t12_9 : Int) (c1 : Int → Option Bool) (Hc1 : ∀ (t12_9 : Int) (s : Nat → V), Facts [(1, (.ref (.bx 1) 0 [] (.agg [(.int .i64 g_1.1), (Enc.enc (g_1.2 : List (Int × Int)))]))), (2, (.bool false)), (10, (Enc.enc (g_1.2 : List (Int × Int)))), (11, (.int .i64 (g_1.2.length : Int))), (12, (.int .i64 t12_9))] s → c1 t12_9 = some r → Run D σ (R53 r) (.run A53_1 [.lp A53_1, .bk 0, .sq A53_7]) s) (t48_19 : Bool) (s : Nat → V) (hs : Facts [(1, (.ref (.bx 1) 0 [] (.agg [(.int .i64 g_1.1), (Enc.enc (g_1.2 : List (Int × Int)))]))), (2, (.bool false)), (10, (Enc.enc (g_1.2 : List (Int × Int)))), (11, (.int .i64 (g_1.2.length : Int))), (12, (.int .i64 t12_9)), (48, (.bool t48_19))] s) (h : i_IsGraph_j1 F g_1 t12_9 c1 t48_19 = some r) : Run D σ (R53 r) (.nrm [.sq A53_5, .bk 1, .sq A53_6, .lp A53_1, .bk 0, .sq A53_7]) s := by
  unfold i_IsGraph_j1 at h
  obtain ⟨h1, h2, h10, h11, h12, h48⟩ := hs
  refine .nsq ?_
  refine run_cond (t := t48_19) h48 h (fun h => ?_) (fun h => ?_)
  · refine .seq ?_
    refine run_reg ?_
    refine e_end ?_
    refine g_v0 (.bool false) rfl rfl ?_
    refine g_end ?_
    refine e_end ?_
    refine renew [(1, (.ref (.bx 1) 0 [] (.agg [(.int .i64 g_1.1), (Enc.enc (g_1.2 : List (Int × Int)))]))), (2, (.bool false)), (10, (Enc.enc (g_1.2 : List (Int × Int)))), (11, (.int .i64 (g_1.2.length : Int))), (12, (.int .i64 t12_9))] ⟨h1, rfl, h10, h11, h12⟩ ?_
    rintro s ⟨h1, h2, h10, h11, h12⟩
    refine .nsq ?_
    refine .ret ?_
    have hr := Option.some.inj h
    subst hr
    exact rrA (res_tmp h2) rfl
  · refine .skip ?_
    refine .nbk ?_
    refine .nsq ?_
    refine run_reg ?_
    refine e_end ?_
    refine g_v1 (t := 12) (u := (.int .i64 t12_9)) (.int .i64 (w64 (t12_9 + 1))) h12 rfl rfl ?_
    refine g_v1 (t := 49) (u := (.int .i64 (w64 (t12_9 + 1)))) (.int .i64 (w64 (t12_9 + 1))) rfl rfl rfl ?_
    refine g_end ?_
    refine e_end ?_
    refine renew [(1, (.ref (.bx 1) 0 [] (.agg [(.int .i64 g_1.1), (Enc.enc (g_1.2 : List (Int × Int)))]))), (2, (.bool false)), (10, (Enc.enc (g_1.2 : List (Int × Int)))), (11, (.int .i64 (g_1.2.length : Int))), (12, (.int .i64 (w64 (t12_9 + 1))))] ⟨h1, h2, h10, h11, rfl⟩ ?_
    rintro s ⟨h1, h2, h10, h11, h12⟩
    refine .nlp ?_
    exact Hc1 (w64 (t12_9 + 1)) _ ⟨h1, h2, h10, h11, h12⟩ h
def i_IsGraph_l1 (F : Nat) (g_1 : (Int × (List (Int × Int))))  : Nat → Int → Option Bool
  | 0, _ => none
  | k + 1, t12_9 =>
    bif decide (t12_9 < (g_1.2.length : Int)) then
      (idx g_1.2 t12_9).bind fun e_16 =>
      bif decide (e_16.1 < 0) then
        i_IsGraph_j1 F g_1 t12_9 (i_IsGraph_l1 F g_1 k) true
      else
        bif decide (e_16.1 ≥ e_16.2) then
          i_IsGraph_j1 F g_1 t12_9 (i_IsGraph_l1 F g_1 k) true
        else
          bif decide (e_16.2 ≥ g_1.1) then
            i_IsGraph_j1 F g_1 t12_9 (i_IsGraph_l1 F g_1 k) true
          else
            bif decide (t12_9 > 0) then
              (idx g_1.2 (w64 (t12_9 - 1))).bind fun e_20 =>
              (slices_Compare F [e_20.1, e_20.2] [e_16.1, e_16.2]).bind fun r_21 =>
              i_IsGraph_j1 F g_1 t12_9 (i_IsGraph_l1 F g_1 k) (decide (r_21 ≥ 0))
            else
              i_IsGraph_j1 F g_1 t12_9 (i_IsGraph_l1 F g_1 k) false
    else
      some true
theorem t_f53_l1 (H : H53 D σ F) (g_1 : (Int × (List (Int × Int))))  : ∀ (k : Nat) (t12_9 : Int) (s : Nat → V), Facts [(1, (.ref (.bx 1) 0 [] (.agg [(.int .i64 g_1.1), (Enc.enc (g_1.2 : List (Int × Int)))]))), (2, (.bool false)), (10, (Enc.enc (g_1.2 : List (Int × Int)))), (11, (.int .i64 (g_1.2.length : Int))), (12, (.int .i64 t12_9))] s → i_IsGraph_l1 F g_1 k t12_9 = some r → Run D σ (R53 r) (.run A53_1 [.lp A53_1, .bk 0, .sq A53_7]) s := by
  intro k
  induction k with
  | zero => intro t12_9 s _ h; exact nomatch (h : (none : Option _) = some r)
  | succ k ih =>
    intro t12_9 s hs h
    rw [i_IsGraph_l1] at h
    obtain ⟨h1, h2, h10, h11, h12⟩ := hs
    refine .seq ?_
    refine run_reg ?_
    refine e_end ?_
    refine g_v2 (t1 := 12) (t2 := 11) (u1 := (.int .i64 t12_9)) (u2 := (.int .i64 (g_1.2.length : Int))) (.bool (decide (t12_9 < (g_1.2.length : Int)))) h12 h11 rfl rfl ?_
    refine g_end ?_
    refine e_end ?_
    refine renew [(1, (.ref (.bx 1) 0 [] (.agg [(.int .i64 g_1.1), (Enc.enc (g_1.2 : List (Int × Int)))]))), (2, (.bool false)), (10, (Enc.enc (g_1.2 : List (Int × Int)))), (11, (.int .i64 (g_1.2.length : Int))), (12, (.int .i64 t12_9)), (13, (.bool (decide (t12_9 < (g_1.2.length : Int)))))] ⟨h1, h2, h10, h11, h12, rfl⟩ ?_
    rintro s ⟨h1, h2, h10, h11, h12, h13⟩
    refine .nsq ?_
    refine .seq ?_
    refine run_cond (t := decide (t12_9 < (g_1.2.length : Int))) h13 h (fun h => ?_) (fun h => ?_)
    · refine .skip ?_
      refine .nsq ?_
      refine .seq ?_
      refine .block ?_
      refine .seq ?_
      refine run_reg ?_
      refine e_clr ?_
      refine e_end ?_
      refine g_v1 (t := 12) (u := (.int .i64 t12_9)) (.int .i64 t12_9) (keep_clear (s := s) (pk := [4]) h12 rfl rfl) rfl rfl ?_
      obtain ⟨e_16, E_e_16, h⟩ := bind_some h
      refine g_v (.ref .sh 0 [] (.agg [(.int .i64 e_16.1), (.int .i64 e_16.2)])) (ev_idx (t := .sh) (lo := 0) (xs := g_1.2) (keep_clear (s := s) (pk := [4]) h10 rfl (Enc.map_enc _ (g_1.2 : List (Int × Int)))) (keep_clear (s := s) (pk := [4]) h12 rfl rfl) E_e_16 rfl rfl) ?_
      refine g_v1 (t := 15) (u := (.ref .sh 0 [] (.agg [(.int .i64 e_16.1), (.int .i64 e_16.2)]))) (.agg [(.int .i64 e_16.1), (.int .i64 e_16.2)]) rfl rfl rfl ?_
      refine g_alloc (gone_clear (s := s) (pk := [4]) (t := 4) rfl) ?_
      refine g_v1 (t := 14) (u := (.int .i64 t12_9)) (.int .i64 t12_9) rfl rfl rfl ?_
      refine g_store (.agg [(.int .i64 e_16.1), (.int .i64 e_16.2)]) (rd_of rfl rfl) (rd_of rfl rfl) (by refine ⟨by decide, by decide, rfl, rfl, rfl, ?_⟩; first | rfl | simp [V.toks, V.tokss, Enc.toks_enc]) ?_
      refine g_end ?_
      refine e_end ?_
      refine renew [(1, (.ref (.bx 1) 0 [] (.agg [(.int .i64 g_1.1), (Enc.enc (g_1.2 : List (Int × Int)))]))), (2, (.bool false)), (3, (.int .i64 t12_9)), (4, (.ref (.bx 4) 0 [] (.agg [(.int .i64 e_16.1), (.int .i64 e_16.2)]))), (10, (Enc.enc (g_1.2 : List (Int × Int)))), (11, (.int .i64 (g_1.2.length : Int))), (12, (.int .i64 t12_9))] ⟨(keep_mut (keep_clear (s := s) (pk := [4]) h1 rfl (map_bx rfl (map_agg (maps_cons rfl (maps_cons (Enc.map_enc _ (g_1.2 : List (Int × Int))) maps_nil))))) (mut_ref_ne rfl rfl (mut_agg (muts_cons rfl (muts_cons (Enc.mut_enc _ _ _ _ (g_1.2 : List (Int × Int))) rfl))))), (keep_mut (keep_clear (s := s) (pk := [4]) h2 rfl rfl) rfl), (keep_mut rfl rfl), (keep_mut rfl rfl), (keep_mut (keep_clear (s := s) (pk := [4]) h10 rfl (Enc.map_enc _ (g_1.2 : List (Int × Int)))) (Enc.mut_enc _ _ _ _ (g_1.2 : List (Int × Int)))), (keep_mut (keep_clear (s := s) (pk := [4]) h11 rfl rfl) rfl), (keep_mut (keep_clear (s := s) (pk := [4]) h12 rfl rfl) rfl)⟩ ?_
      rintro s ⟨h1, h2, h3, h4, h10, h11, h12⟩
      refine .nsq ?_
      refine .seq ?_
      refine run_reg ?_
      refine e_end ?_
      refine g_v1 (t := 4) (u := (.ref (.bx 4) 0 [] (.agg [(.int .i64 e_16.1), (.int .i64 e_16.2)]))) (.ref (.bx 4) 0 [0] (.int .i64 e_16.1)) h4 rfl rfl ?_
      refine g_v1 (t := 17) (u := (.ref (.bx 4) 0 [0] (.int .i64 e_16.1))) (.int .i64 e_16.1) rfl rfl rfl ?_
      refine g_v1 (t := 18) (u := (.int .i64 e_16.1)) (.bool (decide (e_16.1 < 0))) rfl rfl rfl ?_
      refine g_v1 (t := 19) (u := (.bool (decide (e_16.1 < 0)))) (.bool (decide (e_16.1 < 0))) rfl rfl rfl ?_
      refine split_on (c := decide (e_16.1 < 0)) h (fun hg4 h => ?_) (fun hg4 h => ?_)
      · refine g_no (Eq.trans (b := .bool (decide (e_16.1 < 0))) rfl (congrArg V.bool hg4)) ?_
        refine g_no (Eq.trans (b := .bool (decide (e_16.1 < 0))) rfl (congrArg V.bool hg4)) ?_
        refine g_no (Eq.trans (b := .bool (decide (e_16.1 < 0))) rfl (congrArg V.bool hg4)) ?_
        refine g_no (Eq.trans (b := .bool (decide (e_16.1 < 0))) rfl (congrArg V.bool hg4)) ?_
        refine g_no (Eq.trans (b := .bool (decide (e_16.1 < 0))) rfl (congrArg V.bool hg4)) ?_
        refine g_v2 (t1 := 20) (t2 := 25) (u1 := (.bool true)) (u2 := (.tup [])) (.bool true) (Eq.trans (b := .bool (decide (e_16.1 < 0))) rfl (congrArg V.bool hg4)) rfl rfl rfl ?_
        refine g_v1 (t := 26) (u := (.bool true)) (.bool true) rfl rfl rfl ?_
        refine g_no rfl ?_
        refine g_no rfl ?_
        refine g_no rfl ?_
        refine g_no rfl ?_
        refine g_no rfl ?_
        refine g_v2 (t1 := 27) (t2 := 32) (u1 := (.bool true)) (u2 := (.tup [])) (.bool true) rfl rfl rfl rfl ?_
        refine g_v1 (t := 33) (u := (.bool true)) (.bool true) rfl rfl rfl ?_
        refine g_no rfl ?_
        refine g_no rfl ?_
        refine g_no rfl ?_
        refine g_skip rfl ?_
        refine g_skip rfl ?_
        refine g_skip rfl ?_
        refine g_skip rfl ?_
        refine g_skip rfl ?_
        refine g_skip rfl ?_
        refine g_skip rfl ?_
        refine g_skip rfl ?_
        refine g_skip rfl ?_
        refine g_no rfl ?_
        refine g_v2 (t1 := 34) (t2 := 47) (u1 := (.bool true)) (u2 := (.tup [])) (.bool true) rfl rfl rfl rfl ?_
        refine g_end ?_
        refine e_end ?_
        refine renew [(1, (.ref (.bx 1) 0 [] (.agg [(.int .i64 g_1.1), (Enc.enc (g_1.2 : List (Int × Int)))]))), (2, (.bool false)), (10, (Enc.enc (g_1.2 : List (Int × Int)))), (11, (.int .i64 (g_1.2.length : Int))), (12, (.int .i64 t12_9)), (48, (.bool true))] ⟨h1, h2, h10, h11, h12, rfl⟩ ?_
        rintro s ⟨h1, h2, h10, h11, h12, h48⟩
        exact t_f53_j1 H g_1 t12_9 (i_IsGraph_l1 F g_1 k) ih true _ ⟨h1, h2, h10, h11, h12, h48⟩ h
      · refine g_yes (Eq.trans (b := .bool (decide (e_16.1 < 0))) rfl (congrArg V.bool hg4)) (g_v1 (t := 4) (u := (.ref (.bx 4) 0 [] (.agg [(.int .i64 e_16.1), (.int .i64 e_16.2)]))) (.ref (.bx 4) 0 [0] (.int .i64 e_16.1)) h4 rfl rfl ?_)
        refine g_yes (Eq.trans (b := .bool (decide (e_16.1 < 0))) rfl (congrArg V.bool hg4)) (g_v1 (t := 21) (u := (.ref (.bx 4) 0 [0] (.int .i64 e_16.1))) (.int .i64 e_16.1) rfl rfl rfl ?_)
        refine g_yes (Eq.trans (b := .bool (decide (e_16.1 < 0))) rfl (congrArg V.bool hg4)) (g_v1 (t := 4) (u := (.ref (.bx 4) 0 [] (.agg [(.int .i64 e_16.1), (.int .i64 e_16.2)]))) (.ref (.bx 4) 0 [1] (.int .i64 e_16.2)) h4 rfl rfl ?_)
        refine g_yes (Eq.trans (b := .bool (decide (e_16.1 < 0))) rfl (congrArg V.bool hg4)) (g_v1 (t := 23) (u := (.ref (.bx 4) 0 [1] (.int .i64 e_16.2))) (.int .i64 e_16.2) rfl rfl rfl ?_)
        refine g_yes (Eq.trans (b := .bool (decide (e_16.1 < 0))) rfl (congrArg V.bool hg4)) (g_v2 (t1 := 22) (t2 := 24) (u1 := (.int .i64 e_16.1)) (u2 := (.int .i64 e_16.2)) (.bool (decide (e_16.1 ≥ e_16.2))) rfl rfl rfl rfl ?_)
        refine g_v2 (t1 := 20) (t2 := 25) (u1 := (.bool false)) (u2 := (.bool (decide (e_16.1 ≥ e_16.2)))) (.bool (decide (e_16.1 ≥ e_16.2))) (Eq.trans (b := .bool (decide (e_16.1 < 0))) rfl (congrArg V.bool hg4)) rfl rfl rfl ?_
        refine g_v1 (t := 26) (u := (.bool (decide (e_16.1 ≥ e_16.2)))) (.bool (decide (e_16.1 ≥ e_16.2))) rfl rfl rfl ?_
        refine split_on (c := decide (e_16.1 ≥ e_16.2)) h (fun hg11 h => ?_) (fun hg11 h => ?_)
        · refine g_no (Eq.trans (b := .bool (decide (e_16.1 ≥ e_16.2))) rfl (congrArg V.bool hg11)) ?_
          refine g_no (Eq.trans (b := .bool (decide (e_16.1 ≥ e_16.2))) rfl (congrArg V.bool hg11)) ?_
          refine g_no (Eq.trans (b := .bool (decide (e_16.1 ≥ e_16.2))) rfl (congrArg V.bool hg11)) ?_
          refine g_no (Eq.trans (b := .bool (decide (e_16.1 ≥ e_16.2))) rfl (congrArg V.bool hg11)) ?_
          refine g_no (Eq.trans (b := .bool (decide (e_16.1 ≥ e_16.2))) rfl (congrArg V.bool hg11)) ?_
          refine g_v2 (t1 := 27) (t2 := 32) (u1 := (.bool true)) (u2 := (.tup [])) (.bool true) (Eq.trans (b := .bool (decide (e_16.1 ≥ e_16.2))) rfl (congrArg V.bool hg11)) rfl rfl rfl ?_
          refine g_v1 (t := 33) (u := (.bool true)) (.bool true) rfl rfl rfl ?_
          refine g_no rfl ?_
          refine g_no rfl ?_
          refine g_no rfl ?_
          refine g_skip rfl ?_
          refine g_skip rfl ?_
          refine g_skip rfl ?_
          refine g_skip rfl ?_
          refine g_skip rfl ?_
          refine g_skip rfl ?_
          refine g_skip rfl ?_
          refine g_skip rfl ?_
          refine g_skip rfl ?_
          refine g_no rfl ?_
          refine g_v2 (t1 := 34) (t2 := 47) (u1 := (.bool true)) (u2 := (.tup [])) (.bool true) rfl rfl rfl rfl ?_
          refine g_end ?_
          refine e_end ?_
          refine renew [(1, (.ref (.bx 1) 0 [] (.agg [(.int .i64 g_1.1), (Enc.enc (g_1.2 : List (Int × Int)))]))), (2, (.bool false)), (10, (Enc.enc (g_1.2 : List (Int × Int)))), (11, (.int .i64 (g_1.2.length : Int))), (12, (.int .i64 t12_9)), (48, (.bool true))] ⟨h1, h2, h10, h11, h12, rfl⟩ ?_
          rintro s ⟨h1, h2, h10, h11, h12, h48⟩
          exact t_f53_j1 H g_1 t12_9 (i_IsGraph_l1 F g_1 k) ih true _ ⟨h1, h2, h10, h11, h12, h48⟩ h
        · refine g_yes (Eq.trans (b := .bool (decide (e_16.1 ≥ e_16.2))) rfl (congrArg V.bool hg11)) (g_v1 (t := 4) (u := (.ref (.bx 4) 0 [] (.agg [(.int .i64 e_16.1), (.int .i64 e_16.2)]))) (.ref (.bx 4) 0 [1] (.int .i64 e_16.2)) h4 rfl rfl ?_)
          refine g_yes (Eq.trans (b := .bool (decide (e_16.1 ≥ e_16.2))) rfl (congrArg V.bool hg11)) (g_v1 (t := 28) (u := (.ref (.bx 4) 0 [1] (.int .i64 e_16.2))) (.int .i64 e_16.2) rfl rfl rfl ?_)
          refine g_yes (Eq.trans (b := .bool (decide (e_16.1 ≥ e_16.2))) rfl (congrArg V.bool hg11)) (g_v1 (t := 1) (u := (.ref (.bx 1) 0 [] (.agg [(.int .i64 g_1.1), (Enc.enc (g_1.2 : List (Int × Int)))]))) (.ref (.bx 1) 0 [0] (.int .i64 g_1.1)) h1 rfl rfl ?_)
          refine g_yes (Eq.trans (b := .bool (decide (e_16.1 ≥ e_16.2))) rfl (congrArg V.bool hg11)) (g_v1 (t := 30) (u := (.ref (.bx 1) 0 [0] (.int .i64 g_1.1))) (.int .i64 g_1.1) rfl rfl rfl ?_)
          refine g_yes (Eq.trans (b := .bool (decide (e_16.1 ≥ e_16.2))) rfl (congrArg V.bool hg11)) (g_v2 (t1 := 29) (t2 := 31) (u1 := (.int .i64 e_16.2)) (u2 := (.int .i64 g_1.1)) (.bool (decide (e_16.2 ≥ g_1.1))) rfl rfl rfl rfl ?_)
          refine g_v2 (t1 := 27) (t2 := 32) (u1 := (.bool false)) (u2 := (.bool (decide (e_16.2 ≥ g_1.1)))) (.bool (decide (e_16.2 ≥ g_1.1))) (Eq.trans (b := .bool (decide (e_16.1 ≥ e_16.2))) rfl (congrArg V.bool hg11)) rfl rfl rfl ?_
          refine g_v1 (t := 33) (u := (.bool (decide (e_16.2 ≥ g_1.1)))) (.bool (decide (e_16.2 ≥ g_1.1))) rfl rfl rfl ?_
          refine split_on (c := decide (e_16.2 ≥ g_1.1)) h (fun hg18 h => ?_) (fun hg18 h => ?_)
          · refine g_no (Eq.trans (b := .bool (decide (e_16.2 ≥ g_1.1))) rfl (congrArg V.bool hg18)) ?_
            refine g_no (Eq.trans (b := .bool (decide (e_16.2 ≥ g_1.1))) rfl (congrArg V.bool hg18)) ?_
            refine g_no (Eq.trans (b := .bool (decide (e_16.2 ≥ g_1.1))) rfl (congrArg V.bool hg18)) ?_
            refine g_skip rfl ?_
            refine g_skip rfl ?_
            refine g_skip rfl ?_
            refine g_skip rfl ?_
            refine g_skip rfl ?_
            refine g_skip rfl ?_
            refine g_skip rfl ?_
            refine g_skip rfl ?_
            refine g_skip rfl ?_
            refine g_no (Eq.trans (b := .bool (decide (e_16.2 ≥ g_1.1))) rfl (congrArg V.bool hg18)) ?_
            refine g_v2 (t1 := 34) (t2 := 47) (u1 := (.bool true)) (u2 := (.tup [])) (.bool true) (Eq.trans (b := .bool (decide (e_16.2 ≥ g_1.1))) rfl (congrArg V.bool hg18)) rfl rfl rfl ?_
            refine g_end ?_
            refine e_end ?_
            refine renew [(1, (.ref (.bx 1) 0 [] (.agg [(.int .i64 g_1.1), (Enc.enc (g_1.2 : List (Int × Int)))]))), (2, (.bool false)), (10, (Enc.enc (g_1.2 : List (Int × Int)))), (11, (.int .i64 (g_1.2.length : Int))), (12, (.int .i64 t12_9)), (48, (.bool true))] ⟨h1, h2, h10, h11, h12, rfl⟩ ?_
            rintro s ⟨h1, h2, h10, h11, h12, h48⟩
            exact t_f53_j1 H g_1 t12_9 (i_IsGraph_l1 F g_1 k) ih true _ ⟨h1, h2, h10, h11, h12, h48⟩ h
          · refine g_yes (Eq.trans (b := .bool (decide (e_16.2 ≥ g_1.1))) rfl (congrArg V.bool hg18)) (g_v1 (t := 3) (u := (.int .i64 t12_9)) (.int .i64 t12_9) h3 rfl rfl ?_)
            refine g_yes (Eq.trans (b := .bool (decide (e_16.2 ≥ g_1.1))) rfl (congrArg V.bool hg18)) (g_v1 (t := 35) (u := (.int .i64 t12_9)) (.bool (decide (t12_9 > 0))) rfl rfl rfl ?_)
            refine g_yes (Eq.trans (b := .bool (decide (e_16.2 ≥ g_1.1))) rfl (congrArg V.bool hg18)) (g_v1 (t := 36) (u := (.bool (decide (t12_9 > 0)))) (.bool (decide (t12_9 > 0))) rfl rfl rfl ?_)
            refine split_on (c := decide (t12_9 > 0)) h (fun hg21 h => ?_) (fun hg21 h => ?_)
            · refine g_yes (Eq.trans (b := .bool (decide (t12_9 > 0))) rfl (congrArg V.bool hg21)) (g_v1 (t := 1) (u := (.ref (.bx 1) 0 [] (.agg [(.int .i64 g_1.1), (Enc.enc (g_1.2 : List (Int × Int)))]))) (.ref (.bx 1) 0 [1] (Enc.enc (g_1.2 : List (Int × Int)))) h1 rfl rfl ?_)
              refine g_yes (Eq.trans (b := .bool (decide (t12_9 > 0))) rfl (congrArg V.bool hg21)) (g_v1 (t := 38) (u := (.ref (.bx 1) 0 [1] (Enc.enc (g_1.2 : List (Int × Int))))) (Enc.enc (g_1.2 : List (Int × Int))) rfl rfl rfl ?_)
              refine g_yes (Eq.trans (b := .bool (decide (t12_9 > 0))) rfl (congrArg V.bool hg21)) (g_v1 (t := 3) (u := (.int .i64 t12_9)) (.int .i64 t12_9) h3 rfl rfl ?_)
              refine g_yes (Eq.trans (b := .bool (decide (t12_9 > 0))) rfl (congrArg V.bool hg21)) (g_v1 (t := 40) (u := (.int .i64 t12_9)) (.int .i64 (w64 (t12_9 - 1))) rfl rfl rfl ?_)
              obtain ⟨e_20, E_e_20, h⟩ := bind_some h
              refine g_yes (Eq.trans (b := .bool (decide (t12_9 > 0))) rfl (congrArg V.bool hg21)) (g_v (.ref .sh 0 [] (.agg [(.int .i64 e_20.1), (.int .i64 e_20.2)])) (ev_idx (t := .sh) (lo := 0) (xs := g_1.2) rfl rfl E_e_20 rfl rfl) ?_)
              refine g_yes (Eq.trans (b := .bool (decide (t12_9 > 0))) rfl (congrArg V.bool hg21)) (g_v1 (t := 42) (u := (.ref .sh 0 [] (.agg [(.int .i64 e_20.1), (.int .i64 e_20.2)]))) (Enc.enc ([e_20.1, e_20.2] : List Int)) rfl rfl rfl ?_)
              refine g_yes (Eq.trans (b := .bool (decide (t12_9 > 0))) rfl (congrArg V.bool hg21)) (g_v1 (t := 4) (u := (.ref (.bx 4) 0 [] (.agg [(.int .i64 e_16.1), (.int .i64 e_16.2)]))) (encO (.bx 4) (.of ([e_16.1, e_16.2] : List Int))) h4 rfl rfl ?_)
              obtain ⟨r_21, E_r_21, h⟩ := bind_some h
              refine g_yes (Eq.trans (b := .bool (decide (t12_9 > 0))) rfl (congrArg V.bool hg21)) (g_call (m := 0) (al := false) (r := (Enc.enc (r_21 : Int))) [Enc.enc ([e_20.1, e_20.2] : (List Int)), Enc.enc ([e_16.1, e_16.2] : (List Int))] (ta_cons (v := (Enc.enc ([e_20.1, e_20.2] : List Int))) rfl rfl (Enc.erase_enc ([e_20.1, e_20.2] : (List Int))) (ta_cons (v := (encO (.bx 4) (.of ([e_16.1, e_16.2] : List Int)))) rfl rfl (erase_encO (o := .of [e_16.1, e_16.2])) ta_nil)) (H.c81 _ _ _ E_r_21) H.g81 rfl rfl rfl rfl ?_)
              refine g_yes (Eq.trans (b := .bool (decide (t12_9 > 0))) rfl (congrArg V.bool hg21)) (g_v1 (t := 45) (u := (.int .i64 r_21)) (.bool (decide (r_21 ≥ 0))) rfl rfl rfl ?_)
              refine g_yes (Eq.trans (b := .bool (decide (e_16.2 ≥ g_1.1))) rfl (congrArg V.bool hg18)) (g_v2 (t1 := 37) (t2 := 46) (u1 := (.bool true)) (u2 := (.bool (decide (r_21 ≥ 0)))) (.bool (decide (r_21 ≥ 0))) (Eq.trans (b := .bool (decide (t12_9 > 0))) rfl (congrArg V.bool hg21)) rfl rfl rfl ?_)
              refine g_v2 (t1 := 34) (t2 := 47) (u1 := (.bool false)) (u2 := (.bool (decide (r_21 ≥ 0)))) (.bool (decide (r_21 ≥ 0))) (Eq.trans (b := .bool (decide (e_16.2 ≥ g_1.1))) rfl (congrArg V.bool hg18)) rfl rfl rfl ?_
              refine g_end ?_
              refine e_end ?_
              refine renew [(1, (.ref (.bx 1) 0 [] (.agg [(.int .i64 g_1.1), (Enc.enc (g_1.2 : List (Int × Int)))]))), (2, (.bool false)), (10, (Enc.enc (g_1.2 : List (Int × Int)))), (11, (.int .i64 (g_1.2.length : Int))), (12, (.int .i64 t12_9)), (48, (.bool (decide (r_21 ≥ 0))))] ⟨h1, h2, h10, h11, h12, rfl⟩ ?_
              rintro s ⟨h1, h2, h10, h11, h12, h48⟩
              exact t_f53_j1 H g_1 t12_9 (i_IsGraph_l1 F g_1 k) ih (decide (r_21 ≥ 0)) _ ⟨h1, h2, h10, h11, h12, h48⟩ h
            · refine g_no (Eq.trans (b := .bool (decide (t12_9 > 0))) rfl (congrArg V.bool hg21)) ?_
              refine g_no (Eq.trans (b := .bool (decide (t12_9 > 0))) rfl (congrArg V.bool hg21)) ?_
              refine g_no (Eq.trans (b := .bool (decide (t12_9 > 0))) rfl (congrArg V.bool hg21)) ?_
              refine g_no (Eq.trans (b := .bool (decide (t12_9 > 0))) rfl (congrArg V.bool hg21)) ?_
              refine g_no (Eq.trans (b := .bool (decide (t12_9 > 0))) rfl (congrArg V.bool hg21)) ?_
              refine g_no (Eq.trans (b := .bool (decide (t12_9 > 0))) rfl (congrArg V.bool hg21)) ?_
              refine g_no (Eq.trans (b := .bool (decide (t12_9 > 0))) rfl (congrArg V.bool hg21)) ?_
              refine g_no (Eq.trans (b := .bool (decide (t12_9 > 0))) rfl (congrArg V.bool hg21)) ?_
              refine g_no (Eq.trans (b := .bool (decide (t12_9 > 0))) rfl (congrArg V.bool hg21)) ?_
              refine g_yes (Eq.trans (b := .bool (decide (e_16.2 ≥ g_1.1))) rfl (congrArg V.bool hg18)) (g_v2 (t1 := 37) (t2 := 46) (u1 := (.bool false)) (u2 := (.tup [])) (.bool false) (Eq.trans (b := .bool (decide (t12_9 > 0))) rfl (congrArg V.bool hg21)) rfl rfl rfl ?_)
              refine g_v2 (t1 := 34) (t2 := 47) (u1 := (.bool false)) (u2 := (.bool false)) (.bool false) (Eq.trans (b := .bool (decide (e_16.2 ≥ g_1.1))) rfl (congrArg V.bool hg18)) rfl rfl rfl ?_
              refine g_end ?_
              refine e_end ?_
              refine renew [(1, (.ref (.bx 1) 0 [] (.agg [(.int .i64 g_1.1), (Enc.enc (g_1.2 : List (Int × Int)))]))), (2, (.bool false)), (10, (Enc.enc (g_1.2 : List (Int × Int)))), (11, (.int .i64 (g_1.2.length : Int))), (12, (.int .i64 t12_9)), (48, (.bool false))] ⟨h1, h2, h10, h11, h12, rfl⟩ ?_
              rintro s ⟨h1, h2, h10, h11, h12, h48⟩
              exact t_f53_j1 H g_1 t12_9 (i_IsGraph_l1 F g_1 k) ih false _ ⟨h1, h2, h10, h11, h12, h48⟩ h
    · refine .exit ?_
      refine .esq ?_
      refine .elp ?_
      refine .ebk ?_
      refine .nsq ?_
      refine .seq ?_
      refine run_reg ?_
      refine e_end ?_
      refine g_v0 (.bool true) rfl rfl ?_
      refine g_end ?_
      refine e_end ?_
      refine renew [(2, (.bool true))] rfl ?_
      rintro s h2
      refine .nsq ?_
      refine .ret ?_
      have hr := Option.some.inj h
      subst hr
      exact rrA (res_tmp h2) rfl
def i_IsGraph (F : Nat) (g_1 : (Int × (List (Int × Int)))) : Option Bool :=
  (i_within F g_1.1 0 8).bind fun r_2 =>
  bif (!r_2) then
    some false
  else
    i_IsGraph_l1 F g_1 F 0
theorem t53 (H : H53 D σ F) (g_1 : (Int × (List (Int × Int)))) (s : Nat → V) (hs : Facts [(0, (.agg [(.int .i64 g_1.1), (Enc.enc (g_1.2 : List (Int × Int)))]))] s) (h : i_IsGraph F g_1 = some r) : Run D σ (R53 r) (.run A53 []) s := by
  unfold i_IsGraph at h
  have h0 := hs
  refine .seq ?_
  refine run_reg ?_
  refine e_clr ?_
  refine e_end ?_
  refine g_box (.agg [(.int .i64 g_1.1), (Enc.enc (g_1.2 : List (Int × Int)))]) (rd_of (keep_clear (s := s) (pk := [1]) h0 rfl (map_agg (maps_cons rfl (maps_cons (Enc.map_enc _ (g_1.2 : List (Int × Int))) maps_nil)))) rfl) (gone_clear (s := s) (pk := [1]) (t := 1) rfl) rfl ?_
  refine g_v0 (.bool false) rfl rfl ?_
  refine g_end ?_
  refine e_end ?_
  refine renew [(1, (.ref (.bx 1) 0 [] (.agg [(.int .i64 g_1.1), (Enc.enc (g_1.2 : List (Int × Int)))]))), (2, (.bool false))] ⟨rfl, rfl⟩ ?_
  rintro s ⟨h1, h2⟩
  refine .nsq ?_
  refine .seq ?_
  refine .seq ?_
  refine run_reg ?_
  refine e_end ?_
  refine g_v1 (t := 1) (u := (.ref (.bx 1) 0 [] (.agg [(.int .i64 g_1.1), (Enc.enc (g_1.2 : List (Int × Int)))]))) (.ref (.bx 1) 0 [0] (.int .i64 g_1.1)) h1 rfl rfl ?_
  refine g_v1 (t := 5) (u := (.ref (.bx 1) 0 [0] (.int .i64 g_1.1))) (.int .i64 g_1.1) rfl rfl rfl ?_
  obtain ⟨r_2, E_r_2, h⟩ := bind_some h
  refine g_call (m := 0) (al := false) (r := (Enc.enc (r_2 : Bool))) [Enc.enc (g_1.1 : Int), Enc.enc (0 : Int), Enc.enc (8 : Int)] (ta_cons (v := (.int .i64 g_1.1)) rfl rfl rfl (ta_cons (v := (.int .i64 0)) rfl rfl rfl (ta_cons (v := (.int .i64 8)) rfl rfl rfl ta_nil))) (H.c62 _ _ _ _ E_r_2) H.g62 rfl rfl rfl rfl ?_
  refine g_v1 (t := 7) (u := (.bool r_2)) (.bool (!r_2)) rfl rfl rfl ?_
  refine g_end ?_
  refine e_end ?_
  refine renew [(1, (.ref (.bx 1) 0 [] (.agg [(.int .i64 g_1.1), (Enc.enc (g_1.2 : List (Int × Int)))]))), (2, (.bool false)), (8, (.bool (!r_2)))] ⟨h1, h2, rfl⟩ ?_
  rintro s ⟨h1, h2, h8⟩
  refine .nsq ?_
  refine run_cond (t := (!r_2)) h8 h (fun h => ?_) (fun h => ?_)
  · refine .seq ?_
    refine run_reg ?_
    refine e_end ?_
    refine g_v0 (.bool false) rfl rfl ?_
    refine g_end ?_
    refine e_end ?_
    refine renew [(1, (.ref (.bx 1) 0 [] (.agg [(.int .i64 g_1.1), (Enc.enc (g_1.2 : List (Int × Int)))]))), (2, (.bool false))] ⟨h1, rfl⟩ ?_
    rintro s ⟨h1, h2⟩
    refine .nsq ?_
    refine .ret ?_
    have hr := Option.some.inj h
    subst hr
    exact rrA (res_tmp h2) rfl
  · refine .skip ?_
    refine .nsq ?_
    refine .seq ?_
    refine .seq ?_
    refine run_reg ?_
    refine e_end ?_
    refine g_v1 (t := 1) (u := (.ref (.bx 1) 0 [] (.agg [(.int .i64 g_1.1), (Enc.enc (g_1.2 : List (Int × Int)))]))) (.ref (.bx 1) 0 [1] (Enc.enc (g_1.2 : List (Int × Int)))) h1 rfl rfl ?_
    refine g_v1 (t := 9) (u := (.ref (.bx 1) 0 [1] (Enc.enc (g_1.2 : List (Int × Int))))) (Enc.enc (g_1.2 : List (Int × Int))) rfl rfl rfl ?_
    refine g_v (.int .i64 (g_1.2.length : Int)) (ev_len (xs := g_1.2) rfl) ?_
    refine g_v0 (.int .i64 0) rfl rfl ?_
    refine g_end ?_
    refine e_end ?_
    refine renew [(1, (.ref (.bx 1) 0 [] (.agg [(.int .i64 g_1.1), (Enc.enc (g_1.2 : List (Int × Int)))]))), (2, (.bool false)), (10, (Enc.enc (g_1.2 : List (Int × Int)))), (11, (.int .i64 (g_1.2.length : Int))), (12, (.int .i64 0))] ⟨h1, h2, rfl, rfl, rfl⟩ ?_
    rintro s ⟨h1, h2, h10, h11, h12⟩
    refine .nsq ?_
    refine .block ?_
    refine .loop ?_
    exact t_f53_l1 H g_1 F 0 _ ⟨h1, h2, h10, h11, h12⟩ h
end
def e53 (F : Nat) : Ent := ⟨53, da (fun (x : ((Int × (List (Int × Int))) × Unit)) => i_IsGraph F x.1) (fun (r : Bool) => (Enc.enc (r : Bool))), 0, false, selF []⟩
theorem p53 {F : Nat} {x0 : (Int × (List (Int × Int)))} {r : Bool} (h : i_IsGraph F x0 = some r) : (e53 F).den [Enc.enc x0] = some (Enc.enc (r : Bool)) := da_put (f := fun (x : ((Int × (List (Int × Int))) × Unit)) => i_IsGraph F x.1) (t := fun (r : Bool) => (Enc.enc (r : Bool))) (x0, ()) h
theorem o53 {D : Den} {σ : Sig} {F : Nat} (hF : Fits2 Try.prog D σ) (H : H53 D σ F) : (e53 F).Ok Try.prog := by
  refine ⟨fun args r h => ?_, ⟨Try.f53, Try.func53, rfl, rfl⟩⟩
  obtain ⟨⟨x0, _⟩, y, rfl, hy, rfl⟩ := da_open h
  exact contract_run hF (by kernel_rfl) Try.func53 rfl c53 (show 1 ≤ Try.f53.ntmps by decide) (t53 H x0 _ rfl hy)
/- loop.example/g01109/impl.allWithin -/
def A132_5 : AC := (AC.cond (O.t 19) (AC.seq (AC.reg [] [(I.mk (some 6) none false (X.v (A.mov (O.k (V.bool false)))))] []) AC.ret) AC.skip)
def A132_4 : AC := (AC.seq (AC.reg [] [(I.mk (some 15) none false (X.v (A.mov (O.t 8)))), (I.mk (some 16) none false (X.v (A.mov (O.t 1)))), (I.mk (some 17) none false (X.v (A.mov (O.t 2)))), (I.mk (some 18) none false (X.call (O.k (V.fn 62 [] [])) [(O.t 15), (O.t 16), (O.t 17)])), (I.mk (some 19) none false (X.v (A.un UnOp.not (O.t 18))))] []) A132_5)
def A132_6 : AC := (AC.reg [] [(I.mk (some 20) none false (X.v (A.bin BinOp.add (O.t 11) (O.k (V.int IntKind.i64 (Int.ofNat 1)))))), (I.mk (some 11) none false (X.v (A.mov (O.t 20))))] [])
def A132_3 : AC := (AC.seq (AC.block 1 (AC.seq (AC.reg [] [(I.mk (some 13) none false (X.v (A.idx (O.t 9) (O.t 11) 1))), (I.mk (some 14) none false (X.v (A.load Sh.s (O.t 13)))), (I.mk (some 8) none false (X.v (A.mov (O.t 14))))] []) A132_4)) A132_6)
def A132_2 : AC := (AC.seq (AC.cond (O.t 12) AC.skip (AC.exit 0)) A132_3)
def A132_1 : AC := (AC.seq (AC.reg [] [(I.mk (some 12) none false (X.v (A.bin BinOp.lss (O.t 11) (O.t 10))))] []) A132_2)
def A132_7 : AC := (AC.seq (AC.reg [] [(I.mk (some 6) none false (X.v (A.mov (O.k (V.bool true)))))] []) AC.ret)
def A132_9 : AC := (AC.block 0 (AC.loop A132_1))
def A132_8 : AC := (AC.seq (AC.seq (AC.reg [] [(I.mk (some 9) none false (X.v (A.mov (O.t 0)))), (I.mk (some 10) none false (X.v (A.len (O.t 9)))), (I.mk (some 11) none false (X.v (A.mov (O.k (V.int IntKind.i64 (Int.ofNat 0))))))] []) A132_9) A132_7)
def A132 : AC := (AC.seq (AC.reg [] [(I.mk (some 6) none false (X.v (A.mov (O.k (V.bool false)))))] []) A132_8)
def an132 : List An := []
theorem c132 : cC Try.prog Try.f132.ntmps an132 (Try.f132.body.getD .skip) = some A132 := by kernel_rfl
structure H132 (D : Den) (σ : Sig) (F : Nat) : Prop where
  c62 : ∀ (x0 : Int) (x1 : Int) (x2 : Int) r, i_within F x0 x1 x2 = some r → D 62 [Enc.enc x0, Enc.enc x1, Enc.enc x2] = some (Enc.enc (r : Bool))
  g62 : σ 62 = some (0, false)
abbrev R132 (r : Bool) : (Nat → V) → Prop := RR Try.prog [.tmp 6] 0 false (Enc.enc (r : Bool))
section
variable {D : Den} {σ : Sig} {F : Nat} {r : Bool}
def i_allWithin_l1 (F : Nat) (low_2 : Int) (high_3 : Int) (list_1 : (List Int))  : Nat → Int → Option Bool
  | 0, _ => none
  | k + 1, t11_6 =>
    bif decide (t11_6 < (list_1.length : Int)) then
      (idx list_1 t11_6).bind fun e_9 =>
      (i_within F e_9 low_2 high_3).bind fun r_10 =>
      bif (!r_10) then
        some false
      else
        (i_allWithin_l1 F low_2 high_3 list_1 k) (w64 (t11_6 + 1))
    else
      some true
theorem t_f132_l1 (H : H132 D σ F) (low_2 : Int) (high_3 : Int) (list_1 : (List Int))  : ∀ (k : Nat) (t11_6 : Int) (s : Nat → V), Facts [(1, (.int .i64 low_2)), (2, (.int .i64 high_3)), (6, (.bool false)), (9, (Enc.enc (list_1 : List Int))), (10, (.int .i64 (list_1.length : Int))), (11, (.int .i64 t11_6))] s → i_allWithin_l1 F low_2 high_3 list_1 k t11_6 = some r → Run D σ (R132 r) (.run A132_1 [.lp A132_1, .bk 0, .sq A132_7]) s := by
  intro k
  induction k with
  | zero => intro t11_6 s _ h; exact nomatch (h : (none : Option _) = some r)
  | succ k ih =>
    intro t11_6 s hs h
    rw [i_allWithin_l1] at h
    obtain ⟨h1, h2, h6, h9, h10, h11⟩ := hs
    refine .seq ?_
    refine run_reg ?_
    refine e_end ?_
    refine g_v2 (t1 := 11) (t2 := 10) (u1 := (.int .i64 t11_6)) (u2 := (.int .i64 (list_1.length : Int))) (.bool (decide (t11_6 < (list_1.length : Int)))) h11 h10 rfl rfl ?_
    refine g_end ?_
    refine e_end ?_
    refine renew [(1, (.int .i64 low_2)), (2, (.int .i64 high_3)), (6, (.bool false)), (9, (Enc.enc (list_1 : List Int))), (10, (.int .i64 (list_1.length : Int))), (11, (.int .i64 t11_6)), (12, (.bool (decide (t11_6 < (list_1.length : Int)))))] ⟨h1, h2, h6, h9, h10, h11, rfl⟩ ?_
    rintro s ⟨h1, h2, h6, h9, h10, h11, h12⟩
    refine .nsq ?_
    refine .seq ?_
    refine run_cond (t := decide (t11_6 < (list_1.length : Int))) h12 h (fun h => ?_) (fun h => ?_)
    · refine .skip ?_
      refine .nsq ?_
      refine .seq ?_
      refine .block ?_
      refine .seq ?_
      refine run_reg ?_
      refine e_end ?_
      obtain ⟨e_9, E_e_9, h⟩ := bind_some h
      refine g_v (.ref .sh 0 [] (.int .i64 e_9)) (ev_idx (t := .sh) (lo := 0) (xs := list_1) h9 h11 E_e_9 rfl rfl) ?_
      refine g_v1 (t := 13) (u := (.ref .sh 0 [] (.int .i64 e_9))) (.int .i64 e_9) rfl rfl rfl ?_
      refine g_v1 (t := 14) (u := (.int .i64 e_9)) (.int .i64 e_9) rfl rfl rfl ?_
      refine g_end ?_
      refine e_end ?_
      refine renew [(1, (.int .i64 low_2)), (2, (.int .i64 high_3)), (6, (.bool false)), (8, (.int .i64 e_9)), (9, (Enc.enc (list_1 : List Int))), (10, (.int .i64 (list_1.length : Int))), (11, (.int .i64 t11_6))] ⟨h1, h2, h6, rfl, h9, h10, h11⟩ ?_
      rintro s ⟨h1, h2, h6, h8, h9, h10, h11⟩
      refine .nsq ?_
      refine .seq ?_
      refine run_reg ?_
      refine e_end ?_
      refine g_v1 (t := 8) (u := (.int .i64 e_9)) (.int .i64 e_9) h8 rfl rfl ?_
      refine g_v1 (t := 1) (u := (.int .i64 low_2)) (.int .i64 low_2) h1 rfl rfl ?_
      refine g_v1 (t := 2) (u := (.int .i64 high_3)) (.int .i64 high_3) h2 rfl rfl ?_
      obtain ⟨r_10, E_r_10, h⟩ := bind_some h
      refine g_call (m := 0) (al := false) (r := (Enc.enc (r_10 : Bool))) [Enc.enc (e_9 : Int), Enc.enc (low_2 : Int), Enc.enc (high_3 : Int)] (ta_cons (v := (.int .i64 e_9)) rfl rfl rfl (ta_cons (v := (.int .i64 low_2)) rfl rfl rfl (ta_cons (v := (.int .i64 high_3)) rfl rfl rfl ta_nil))) (H.c62 _ _ _ _ E_r_10) H.g62 rfl rfl rfl rfl ?_
      refine g_v1 (t := 18) (u := (.bool r_10)) (.bool (!r_10)) rfl rfl rfl ?_
      refine g_end ?_
      refine e_end ?_
      refine renew [(1, (.int .i64 low_2)), (2, (.int .i64 high_3)), (6, (.bool false)), (9, (Enc.enc (list_1 : List Int))), (10, (.int .i64 (list_1.length : Int))), (11, (.int .i64 t11_6)), (19, (.bool (!r_10)))] ⟨h1, h2, h6, h9, h10, h11, rfl⟩ ?_
      rintro s ⟨h1, h2, h6, h9, h10, h11, h19⟩
      refine .nsq ?_
      refine run_cond (t := (!r_10)) h19 h (fun h => ?_) (fun h => ?_)
      · refine .seq ?_
        refine run_reg ?_
        refine e_end ?_
        refine g_v0 (.bool false) rfl rfl ?_
        refine g_end ?_
        refine e_end ?_
        refine renew [(1, (.int .i64 low_2)), (2, (.int .i64 high_3)), (6, (.bool false)), (9, (Enc.enc (list_1 : List Int))), (10, (.int .i64 (list_1.length : Int))), (11, (.int .i64 t11_6))] ⟨h1, h2, rfl, h9, h10, h11⟩ ?_
        rintro s ⟨h1, h2, h6, h9, h10, h11⟩
        refine .nsq ?_
        refine .ret ?_
        have hr := Option.some.inj h
        subst hr
        exact rrA (res_tmp h6) rfl
      · refine .skip ?_
        refine .nbk ?_
        refine .nsq ?_
        refine run_reg ?_
        refine e_end ?_
        refine g_v1 (t := 11) (u := (.int .i64 t11_6)) (.int .i64 (w64 (t11_6 + 1))) h11 rfl rfl ?_
        refine g_v1 (t := 20) (u := (.int .i64 (w64 (t11_6 + 1)))) (.int .i64 (w64 (t11_6 + 1))) rfl rfl rfl ?_
        refine g_end ?_
        refine e_end ?_
        refine renew [(1, (.int .i64 low_2)), (2, (.int .i64 high_3)), (6, (.bool false)), (9, (Enc.enc (list_1 : List Int))), (10, (.int .i64 (list_1.length : Int))), (11, (.int .i64 (w64 (t11_6 + 1))))] ⟨h1, h2, h6, h9, h10, rfl⟩ ?_
        rintro s ⟨h1, h2, h6, h9, h10, h11⟩
        refine .nlp ?_
        exact ih (w64 (t11_6 + 1)) _ ⟨h1, h2, h6, h9, h10, h11⟩ h
    · refine .exit ?_
      refine .esq ?_
      refine .elp ?_
      refine .ebk ?_
      refine .nsq ?_
      refine .seq ?_
      refine run_reg ?_
      refine e_end ?_
      refine g_v0 (.bool true) rfl rfl ?_
      refine g_end ?_
      refine e_end ?_
      refine renew [(6, (.bool true))] rfl ?_
      rintro s h6
      refine .nsq ?_
      refine .ret ?_
      have hr := Option.some.inj h
      subst hr
      exact rrA (res_tmp h6) rfl
def i_allWithin (F : Nat) (list_1 : (List Int)) (low_2 : Int) (high_3 : Int) : Option Bool :=
  i_allWithin_l1 F low_2 high_3 list_1 F 0
theorem t132 (H : H132 D σ F) (list_1 : (List Int)) (low_2 : Int) (high_3 : Int) (s : Nat → V) (hs : Facts [(0, (Enc.enc (list_1 : List Int))), (1, (.int .i64 low_2)), (2, (.int .i64 high_3))] s) (h : i_allWithin F list_1 low_2 high_3 = some r) : Run D σ (R132 r) (.run A132 []) s := by
  unfold i_allWithin at h
  obtain ⟨h0, h1, h2⟩ := hs
  refine .seq ?_
  refine run_reg ?_
  refine e_end ?_
  refine g_v0 (.bool false) rfl rfl ?_
  refine g_end ?_
  refine e_end ?_
  refine renew [(0, (Enc.enc (list_1 : List Int))), (1, (.int .i64 low_2)), (2, (.int .i64 high_3)), (6, (.bool false))] ⟨h0, h1, h2, rfl⟩ ?_
  rintro s ⟨h0, h1, h2, h6⟩
  refine .nsq ?_
  refine .seq ?_
  refine .seq ?_
  refine run_reg ?_
  refine e_end ?_
  refine g_v1 (t := 0) (u := (Enc.enc (list_1 : List Int))) (Enc.enc (list_1 : List Int)) h0 rfl rfl ?_
  refine g_v (.int .i64 (list_1.length : Int)) (ev_len (xs := list_1) rfl) ?_
  refine g_v0 (.int .i64 0) rfl rfl ?_
  refine g_end ?_
  refine e_end ?_
  refine renew [(1, (.int .i64 low_2)), (2, (.int .i64 high_3)), (6, (.bool false)), (9, (Enc.enc (list_1 : List Int))), (10, (.int .i64 (list_1.length : Int))), (11, (.int .i64 0))] ⟨h1, h2, h6, rfl, rfl, rfl⟩ ?_
  rintro s ⟨h1, h2, h6, h9, h10, h11⟩
  refine .nsq ?_
  refine .block ?_
  refine .loop ?_
  exact t_f132_l1 H low_2 high_3 list_1 F 0 _ ⟨h1, h2, h6, h9, h10, h11⟩ h
end
def e132 (F : Nat) : Ent := ⟨132, da (fun (x : ((List Int) × Int × Int × Unit)) => i_allWithin F x.1 x.2.1 x.2.2.1) (fun (r : Bool) => (Enc.enc (r : Bool))), 0, false, selF []⟩
theorem p132 {F : Nat} {x0 : (List Int)} {x1 : Int} {x2 : Int} {r : Bool} (h : i_allWithin F x0 x1 x2 = some r) : (e132 F).den [Enc.enc x0, Enc.enc x1, Enc.enc x2] = some (Enc.enc (r : Bool)) := da_put (f := fun (x : ((List Int) × Int × Int × Unit)) => i_allWithin F x.1 x.2.1 x.2.2.1) (t := fun (r : Bool) => (Enc.enc (r : Bool))) (x0, x1, x2, ()) h
theorem o132 {D : Den} {σ : Sig} {F : Nat} (hF : Fits2 Try.prog D σ) (H : H132 D σ F) : (e132 F).Ok Try.prog := by
  refine ⟨fun args r h => ?_, ⟨Try.f132, Try.func132, rfl, rfl⟩⟩
  obtain ⟨⟨x0, x1, x2, _⟩, y, rfl, hy, rfl⟩ := da_open h
  exact contract_run hF (by kernel_rfl) Try.func132 rfl c132 (show 3 ≤ Try.f132.ntmps by decide) (t132 H x0 x1 x2 _ ⟨rfl, rfl, rfl⟩ hy)
/- loop.example/g01109/impl.hasNodes -/
def A116_1 : AC := (AC.seq (AC.reg [] [(I.mk (some 5) none false (X.v (A.load (Sh.ag [Sh.s, Sh.p]) (O.t 2)))), (I.mk (some 6) none false (X.call (O.k (V.fn 53 [] [])) [(O.t 5)])), (I.mk (some 7) none false (X.v (A.mov (O.t 6)))), (I.mk (some 8) (some (7, true)) false (X.v (A.mov (O.t 1)))), (I.mk (some 9) (some (7, true)) false (X.v (A.fld (O.t 2) 0 0))), (I.mk (some 10) (some (7, true)) false (X.v (A.load Sh.s (O.t 9)))), (I.mk (some 11) (some (7, true)) false (X.v (A.bin BinOp.sub (O.t 10) (O.k (V.int IntKind.i64 (Int.ofNat 1)))))), (I.mk (some 12) (some (7, true)) false (X.call (O.k (V.fn 132 [] [])) [(O.t 8), (O.k (V.int IntKind.i64 (Int.ofNat 0))), (O.t 11)])), (I.mk (some 13) none false (X.v (A.pick (O.t 7) (O.t 12) (O.k (V.bool false))))), (I.mk (some 4) none false (X.v (A.mov (O.t 13))))] []) AC.ret)
def A116 : AC := (AC.seq (AC.reg [.clr [2]] [(I.mk (some 2) none false (X.box (O.t 0))), (I.mk (some 4) none false (X.v (A.mov (O.k (V.bool false)))))] []) A116_1)
def an116 : List An := [{ id := 0, pre := [.clr [2]], ep := [], lin := [], sp := [] }]
theorem c116 : cC Try.prog Try.f116.ntmps an116 (Try.f116.body.getD .skip) = some A116 := by kernel_rfl
structure H116 (D : Den) (σ : Sig) (F : Nat) : Prop where
  c53 : ∀ (x0 : (Int × (List (Int × Int)))) r, i_IsGraph F x0 = some r → D 53 [Enc.enc x0] = some (Enc.enc (r : Bool))
  g53 : σ 53 = some (0, false)
  c132 : ∀ (x0 : (List Int)) (x1 : Int) (x2 : Int) r, i_allWithin F x0 x1 x2 = some r → D 132 [Enc.enc x0, Enc.enc x1, Enc.enc x2] = some (Enc.enc (r : Bool))
  g132 : σ 132 = some (0, false)
abbrev R116 (r : Bool) : (Nat → V) → Prop := RR Try.prog [.tmp 4] 0 false (Enc.enc (r : Bool))
section
variable {D : Den} {σ : Sig} {F : Nat} {r : Bool}
def i_hasNodes (F : Nat) (g_1 : (Int × (List (Int × Int)))) (nodes_2 : (List Int)) : Option Bool :=
  (i_IsGraph F g_1).bind fun r_3 =>
  bif r_3 then
    (i_allWithin F nodes_2 0 (w64 (g_1.1 - 1))).bind fun r_4 =>
    some r_4
  else
    some false
theorem t116 (H : H116 D σ F) (g_1 : (Int × (List (Int × Int)))) (nodes_2 : (List Int)) (s : Nat → V) (hs : Facts [(0, (.agg [(.int .i64 g_1.1), (Enc.enc (g_1.2 : List (Int × Int)))])), (1, (Enc.enc (nodes_2 : List Int)))] s) (h : i_hasNodes F g_1 nodes_2 = some r) : Run D σ (R116 r) (.run A116 []) s := by
  unfold i_hasNodes at h
  obtain ⟨h0, h1⟩ := hs
  refine .seq ?_
  refine run_reg ?_
  refine e_clr ?_
  refine e_end ?_
  refine g_box (.agg [(.int .i64 g_1.1), (Enc.enc (g_1.2 : List (Int × Int)))]) (rd_of (keep_clear (s := s) (pk := [2]) h0 rfl (map_agg (maps_cons rfl (maps_cons (Enc.map_enc _ (g_1.2 : List (Int × Int))) maps_nil)))) rfl) (gone_clear (s := s) (pk := [2]) (t := 2) rfl) rfl ?_
  refine g_v0 (.bool false) rfl rfl ?_
  refine g_end ?_
  refine e_end ?_
  refine renew [(1, (Enc.enc (nodes_2 : List Int))), (2, (.ref (.bx 2) 0 [] (.agg [(.int .i64 g_1.1), (Enc.enc (g_1.2 : List (Int × Int)))]))), (4, (.bool false))] ⟨(keep_clear (s := s) (pk := [2]) h1 rfl (Enc.map_enc _ (nodes_2 : List Int))), rfl, rfl⟩ ?_
  rintro s ⟨h1, h2, h4⟩
  refine .nsq ?_
  refine .seq ?_
  refine run_reg ?_
  refine e_end ?_
  refine g_v1 (t := 2) (u := (.ref (.bx 2) 0 [] (.agg [(.int .i64 g_1.1), (Enc.enc (g_1.2 : List (Int × Int)))]))) (.agg [(.int .i64 g_1.1), (Enc.enc (g_1.2 : List (Int × Int)))]) h2 rfl rfl ?_
  obtain ⟨r_3, E_r_3, h⟩ := bind_some h
  refine g_call (m := 0) (al := false) (r := (Enc.enc (r_3 : Bool))) [Enc.enc (g_1 : (Int × (List (Int × Int))))] (ta_cons (v := (.agg [(.int .i64 g_1.1), (Enc.enc (g_1.2 : List (Int × Int)))])) rfl rfl (Enc.erase_enc (g_1 : (Int × (List (Int × Int))))) ta_nil) (H.c53 _ _ E_r_3) H.g53 rfl rfl rfl rfl ?_
  refine g_v1 (t := 6) (u := (.bool r_3)) (.bool r_3) rfl rfl rfl ?_
  refine split_on (c := r_3) h (fun hg3 h => ?_) (fun hg3 h => ?_)
  · refine g_yes (Eq.trans (b := .bool r_3) rfl (congrArg V.bool hg3)) (g_v1 (t := 1) (u := (Enc.enc (nodes_2 : List Int))) (Enc.enc (nodes_2 : List Int)) h1 rfl rfl ?_)
    refine g_yes (Eq.trans (b := .bool r_3) rfl (congrArg V.bool hg3)) (g_v1 (t := 2) (u := (.ref (.bx 2) 0 [] (.agg [(.int .i64 g_1.1), (Enc.enc (g_1.2 : List (Int × Int)))]))) (.ref (.bx 2) 0 [0] (.int .i64 g_1.1)) h2 rfl rfl ?_)
    refine g_yes (Eq.trans (b := .bool r_3) rfl (congrArg V.bool hg3)) (g_v1 (t := 9) (u := (.ref (.bx 2) 0 [0] (.int .i64 g_1.1))) (.int .i64 g_1.1) rfl rfl rfl ?_)
    refine g_yes (Eq.trans (b := .bool r_3) rfl (congrArg V.bool hg3)) (g_v1 (t := 10) (u := (.int .i64 g_1.1)) (.int .i64 (w64 (g_1.1 - 1))) rfl rfl rfl ?_)
    obtain ⟨r_4, E_r_4, h⟩ := bind_some h
    refine g_yes (Eq.trans (b := .bool r_3) rfl (congrArg V.bool hg3)) (g_call (m := 0) (al := false) (r := (Enc.enc (r_4 : Bool))) [Enc.enc (nodes_2 : (List Int)), Enc.enc (0 : Int), Enc.enc (w64 (g_1.1 - 1) : Int)] (ta_cons (v := (Enc.enc (nodes_2 : List Int))) rfl rfl (Enc.erase_enc (nodes_2 : (List Int))) (ta_cons (v := (.int .i64 0)) rfl rfl rfl (ta_cons (v := (.int .i64 (w64 (g_1.1 - 1)))) rfl rfl rfl ta_nil))) (H.c132 _ _ _ _ E_r_4) H.g132 rfl rfl rfl rfl ?_)
    refine g_v2 (t1 := 7) (t2 := 12) (u1 := (.bool true)) (u2 := (.bool r_4)) (.bool r_4) (Eq.trans (b := .bool r_3) rfl (congrArg V.bool hg3)) rfl rfl rfl ?_
    refine g_v1 (t := 13) (u := (.bool r_4)) (.bool r_4) rfl rfl rfl ?_
    refine g_end ?_
    refine e_end ?_
    refine renew [(4, (.bool r_4))] rfl ?_
    rintro s h4
    refine .nsq ?_
    refine .ret ?_
    have hr := Option.some.inj h
    subst hr
    exact rrA (res_tmp h4) rfl
  · refine g_no (Eq.trans (b := .bool r_3) rfl (congrArg V.bool hg3)) ?_
    refine g_no (Eq.trans (b := .bool r_3) rfl (congrArg V.bool hg3)) ?_
    refine g_no (Eq.trans (b := .bool r_3) rfl (congrArg V.bool hg3)) ?_
    refine g_no (Eq.trans (b := .bool r_3) rfl (congrArg V.bool hg3)) ?_
    refine g_no (Eq.trans (b := .bool r_3) rfl (congrArg V.bool hg3)) ?_
    refine g_v2 (t1 := 7) (t2 := 12) (u1 := (.bool false)) (u2 := (.tup [])) (.bool false) (Eq.trans (b := .bool r_3) rfl (congrArg V.bool hg3)) rfl rfl rfl ?_
    refine g_v1 (t := 13) (u := (.bool false)) (.bool false) rfl rfl rfl ?_
    refine g_end ?_
    refine e_end ?_
    refine renew [(4, (.bool false))] rfl ?_
    rintro s h4
    refine .nsq ?_
    refine .ret ?_
    have hr := Option.some.inj h
    subst hr
    exact rrA (res_tmp h4) rfl
end
def e116 (F : Nat) : Ent := ⟨116, da (fun (x : ((Int × (List (Int × Int))) × (List Int) × Unit)) => i_hasNodes F x.1 x.2.1) (fun (r : Bool) => (Enc.enc (r : Bool))), 0, false, selF []⟩
theorem p116 {F : Nat} {x0 : (Int × (List (Int × Int)))} {x1 : (List Int)} {r : Bool} (h : i_hasNodes F x0 x1 = some r) : (e116 F).den [Enc.enc x0, Enc.enc x1] = some (Enc.enc (r : Bool)) := da_put (f := fun (x : ((Int × (List (Int × Int))) × (List Int) × Unit)) => i_hasNodes F x.1 x.2.1) (t := fun (r : Bool) => (Enc.enc (r : Bool))) (x0, x1, ()) h
theorem o116 {D : Den} {σ : Sig} {F : Nat} (hF : Fits2 Try.prog D σ) (H : H116 D σ F) : (e116 F).Ok Try.prog := by
  refine ⟨fun args r h => ?_, ⟨Try.f116, Try.func116, rfl, rfl⟩⟩
  obtain ⟨⟨x0, x1, _⟩, y, rfl, hy, rfl⟩ := da_open h
  exact contract_run hF (by kernel_rfl) Try.func116 rfl c116 (show 2 ≤ Try.f116.ntmps by decide) (t116 H x0 x1 _ ⟨rfl, rfl⟩ hy)
/- loop.example/g01109/impl.increasing -/
def A117_2 : AC := (AC.cond (O.t 7) AC.skip (AC.exit 0))
def A117_4 : AC := (AC.cond (O.t 19) (AC.seq (AC.reg [] [(I.mk (some 2) none false (X.v (A.mov (O.k (V.bool false)))))] []) AC.ret) AC.skip)
def A117_5 : AC := (AC.reg [] [(I.mk (some 8) none false (X.v (A.mov (O.t 3)))), (I.mk (some 9) none false (X.v (A.bin BinOp.add (O.t 8) (O.k (V.int IntKind.i64 (Int.ofNat 1)))))), (I.mk (some 3) none false (X.v (A.mov (O.t 9))))] [])
def A117_3 : AC := (AC.seq (AC.block 1 (AC.seq (AC.reg [] [(I.mk (some 10) none false (X.v (A.mov (O.t 0)))), (I.mk (some 11) none false (X.v (A.mov (O.t 3)))), (I.mk (some 12) none false (X.v (A.bin BinOp.sub (O.t 11) (O.k (V.int IntKind.i64 (Int.ofNat 1)))))), (I.mk (some 13) none false (X.v (A.idx (O.t 10) (O.t 12) 1))), (I.mk (some 14) none false (X.v (A.load Sh.s (O.t 13)))), (I.mk (some 15) none false (X.v (A.mov (O.t 0)))), (I.mk (some 16) none false (X.v (A.mov (O.t 3)))), (I.mk (some 17) none false (X.v (A.idx (O.t 15) (O.t 16) 1))), (I.mk (some 18) none false (X.v (A.load Sh.s (O.t 17)))), (I.mk (some 19) none false (X.v (A.bin BinOp.geq (O.t 14) (O.t 18))))] []) A117_4)) A117_5)
def A117_1 : AC := (AC.seq (AC.seq (AC.reg [] [(I.mk (some 4) none false (X.v (A.mov (O.t 3)))), (I.mk (some 5) none false (X.v (A.mov (O.t 0)))), (I.mk (some 6) none false (X.v (A.len (O.t 5)))), (I.mk (some 7) none false (X.v (A.bin BinOp.lss (O.t 4) (O.t 6))))] []) A117_2) A117_3)
def A117_6 : AC := (AC.seq (AC.reg [] [(I.mk (some 2) none false (X.v (A.mov (O.k (V.bool true)))))] []) AC.ret)
def A117_8 : AC := (AC.block 0 (AC.loop A117_1))
def A117_7 : AC := (AC.seq (AC.seq (AC.reg [] [(I.mk (some 3) none false (X.v (A.mov (O.k (V.int IntKind.i64 (Int.ofNat 1))))))] []) A117_8) A117_6)
def A117 : AC := (AC.seq (AC.reg [] [(I.mk (some 2) none false (X.v (A.mov (O.k (V.bool false)))))] []) A117_7)
def an117 : List An := []
theorem c117 : cC Try.prog Try.f117.ntmps an117 (Try.f117.body.getD .skip) = some A117 := by kernel_rfl
structure H117 (D : Den) (σ : Sig) (F : Nat) : Prop where
  mk ::
abbrev R117 (r : Bool) : (Nat → V) → Prop := RR Try.prog [.tmp 2] 0 false (Enc.enc (r : Bool))
section
variable {D : Den} {σ : Sig} {F : Nat} {r : Bool}
def i_increasing_l1 (F : Nat) (list_1 : (List Int))  : Nat → Int → Option Bool
  | 0, _ => none
  | k + 1, i_4 =>
    bif decide (i_4 < (list_1.length : Int)) then
      (idx list_1 (w64 (i_4 - 1))).bind fun e_7 =>
      (idx list_1 i_4).bind fun e_8 =>
      bif decide (e_7 ≥ e_8) then
        some false
      else
        (i_increasing_l1 F list_1 k) (w64 (i_4 + 1))
    else
      some true
theorem t_f117_l1 (H : H117 D σ F) (list_1 : (List Int))  : ∀ (k : Nat) (i_4 : Int) (s : Nat → V), Facts [(0, (Enc.enc (list_1 : List Int))), (2, (.bool false)), (3, (.int .i64 i_4))] s → i_increasing_l1 F list_1 k i_4 = some r → Run D σ (R117 r) (.run A117_1 [.lp A117_1, .bk 0, .sq A117_6]) s := by
  intro k
  induction k with
  | zero => intro i_4 s _ h; exact nomatch (h : (none : Option _) = some r)
  | succ k ih =>
    intro i_4 s hs h
    rw [i_increasing_l1] at h
    obtain ⟨h0, h2, h3⟩ := hs
    refine .seq ?_
    refine .seq ?_
    refine run_reg ?_
    refine e_end ?_
    refine g_v1 (t := 3) (u := (.int .i64 i_4)) (.int .i64 i_4) h3 rfl rfl ?_
    refine g_v1 (t := 0) (u := (Enc.enc (list_1 : List Int))) (Enc.enc (list_1 : List Int)) h0 rfl rfl ?_
    refine g_v (.int .i64 (list_1.length : Int)) (ev_len (xs := list_1) rfl) ?_
    refine g_v2 (t1 := 4) (t2 := 6) (u1 := (.int .i64 i_4)) (u2 := (.int .i64 (list_1.length : Int))) (.bool (decide (i_4 < (list_1.length : Int)))) rfl rfl rfl rfl ?_
    refine g_end ?_
    refine e_end ?_
    refine renew [(0, (Enc.enc (list_1 : List Int))), (2, (.bool false)), (3, (.int .i64 i_4)), (7, (.bool (decide (i_4 < (list_1.length : Int)))))] ⟨h0, h2, h3, rfl⟩ ?_
    rintro s ⟨h0, h2, h3, h7⟩
    refine .nsq ?_
    refine run_cond (t := decide (i_4 < (list_1.length : Int))) h7 h (fun h => ?_) (fun h => ?_)
    · refine .skip ?_
      refine .nsq ?_
      refine .seq ?_
      refine .block ?_
      refine .seq ?_
      refine run_reg ?_
      refine e_end ?_
      refine g_v1 (t := 0) (u := (Enc.enc (list_1 : List Int))) (Enc.enc (list_1 : List Int)) h0 rfl rfl ?_
      refine g_v1 (t := 3) (u := (.int .i64 i_4)) (.int .i64 i_4) h3 rfl rfl ?_
      refine g_v1 (t := 11) (u := (.int .i64 i_4)) (.int .i64 (w64 (i_4 - 1))) rfl rfl rfl ?_
      obtain ⟨e_7, E_e_7, h⟩ := bind_some h
      refine g_v (.ref .sh 0 [] (.int .i64 e_7)) (ev_idx (t := .sh) (lo := 0) (xs := list_1) rfl rfl E_e_7 rfl rfl) ?_
      refine g_v1 (t := 13) (u := (.ref .sh 0 [] (.int .i64 e_7))) (.int .i64 e_7) rfl rfl rfl ?_
      refine g_v1 (t := 0) (u := (Enc.enc (list_1 : List Int))) (Enc.enc (list_1 : List Int)) h0 rfl rfl ?_
      refine g_v1 (t := 3) (u := (.int .i64 i_4)) (.int .i64 i_4) h3 rfl rfl ?_
      obtain ⟨e_8, E_e_8, h⟩ := bind_some h
      refine g_v (.ref .sh 0 [] (.int .i64 e_8)) (ev_idx (t := .sh) (lo := 0) (xs := list_1) rfl rfl E_e_8 rfl rfl) ?_
      refine g_v1 (t := 17) (u := (.ref .sh 0 [] (.int .i64 e_8))) (.int .i64 e_8) rfl rfl rfl ?_
      refine g_v2 (t1 := 14) (t2 := 18) (u1 := (.int .i64 e_7)) (u2 := (.int .i64 e_8)) (.bool (decide (e_7 ≥ e_8))) rfl rfl rfl rfl ?_
      refine g_end ?_
      refine e_end ?_
      refine renew [(0, (Enc.enc (list_1 : List Int))), (2, (.bool false)), (3, (.int .i64 i_4)), (19, (.bool (decide (e_7 ≥ e_8))))] ⟨h0, h2, h3, rfl⟩ ?_
      rintro s ⟨h0, h2, h3, h19⟩
      refine .nsq ?_
      refine run_cond (t := decide (e_7 ≥ e_8)) h19 h (fun h => ?_) (fun h => ?_)
      · refine .seq ?_
        refine run_reg ?_
        refine e_end ?_
        refine g_v0 (.bool false) rfl rfl ?_
        refine g_end ?_
        refine e_end ?_
        refine renew [(0, (Enc.enc (list_1 : List Int))), (2, (.bool false)), (3, (.int .i64 i_4))] ⟨h0, rfl, h3⟩ ?_
        rintro s ⟨h0, h2, h3⟩
        refine .nsq ?_
        refine .ret ?_
        have hr := Option.some.inj h
        subst hr
        exact rrA (res_tmp h2) rfl
      · refine .skip ?_
        refine .nbk ?_
        refine .nsq ?_
        refine run_reg ?_
        refine e_end ?_
        refine g_v1 (t := 3) (u := (.int .i64 i_4)) (.int .i64 i_4) h3 rfl rfl ?_
        refine g_v1 (t := 8) (u := (.int .i64 i_4)) (.int .i64 (w64 (i_4 + 1))) rfl rfl rfl ?_
        refine g_v1 (t := 9) (u := (.int .i64 (w64 (i_4 + 1)))) (.int .i64 (w64 (i_4 + 1))) rfl rfl rfl ?_
        refine g_end ?_
        refine e_end ?_
        refine renew [(0, (Enc.enc (list_1 : List Int))), (2, (.bool false)), (3, (.int .i64 (w64 (i_4 + 1))))] ⟨h0, h2, rfl⟩ ?_
        rintro s ⟨h0, h2, h3⟩
        refine .nlp ?_
        exact ih (w64 (i_4 + 1)) _ ⟨h0, h2, h3⟩ h
    · refine .exit ?_
      refine .esq ?_
      refine .elp ?_
      refine .ebk ?_
      refine .nsq ?_
      refine .seq ?_
      refine run_reg ?_
      refine e_end ?_
      refine g_v0 (.bool true) rfl rfl ?_
      refine g_end ?_
      refine e_end ?_
      refine renew [(2, (.bool true))] rfl ?_
      rintro s h2
      refine .nsq ?_
      refine .ret ?_
      have hr := Option.some.inj h
      subst hr
      exact rrA (res_tmp h2) rfl
def i_increasing (F : Nat) (list_1 : (List Int)) : Option Bool :=
  i_increasing_l1 F list_1 F 1
theorem t117 (H : H117 D σ F) (list_1 : (List Int)) (s : Nat → V) (hs : Facts [(0, (Enc.enc (list_1 : List Int)))] s) (h : i_increasing F list_1 = some r) : Run D σ (R117 r) (.run A117 []) s := by
  unfold i_increasing at h
  have h0 := hs
  refine .seq ?_
  refine run_reg ?_
  refine e_end ?_
  refine g_v0 (.bool false) rfl rfl ?_
  refine g_end ?_
  refine e_end ?_
  refine renew [(0, (Enc.enc (list_1 : List Int))), (2, (.bool false))] ⟨h0, rfl⟩ ?_
  rintro s ⟨h0, h2⟩
  refine .nsq ?_
  refine .seq ?_
  refine .seq ?_
  refine run_reg ?_
  refine e_end ?_
  refine g_v0 (.int .i64 1) rfl rfl ?_
  refine g_end ?_
  refine e_end ?_
  refine renew [(0, (Enc.enc (list_1 : List Int))), (2, (.bool false)), (3, (.int .i64 1))] ⟨h0, h2, rfl⟩ ?_
  rintro s ⟨h0, h2, h3⟩
  refine .nsq ?_
  refine .block ?_
  refine .loop ?_
  exact t_f117_l1 H list_1 F 1 _ ⟨h0, h2, h3⟩ h
end
def e117 (F : Nat) : Ent := ⟨117, da (fun (x : ((List Int) × Unit)) => i_increasing F x.1) (fun (r : Bool) => (Enc.enc (r : Bool))), 0, false, selF []⟩
theorem p117 {F : Nat} {x0 : (List Int)} {r : Bool} (h : i_increasing F x0 = some r) : (e117 F).den [Enc.enc x0] = some (Enc.enc (r : Bool)) := da_put (f := fun (x : ((List Int) × Unit)) => i_increasing F x.1) (t := fun (r : Bool) => (Enc.enc (r : Bool))) (x0, ()) h
theorem o117 {D : Den} {σ : Sig} {F : Nat} (hF : Fits2 Try.prog D σ) (H : H117 D σ F) : (e117 F).Ok Try.prog := by
  refine ⟨fun args r h => ?_, ⟨Try.f117, Try.func117, rfl, rfl⟩⟩
  obtain ⟨⟨x0, _⟩, y, rfl, hy, rfl⟩ := da_open h
  exact contract_run hF (by kernel_rfl) Try.func117 rfl c117 (show 1 ≤ Try.f117.ntmps by decide) (t117 H x0 _ rfl hy)
/- loop.example/g01109/impl.isSet -/
def A84_1 : AC := (AC.seq (AC.reg [] [(I.mk (some 5) none false (X.v (A.load (Sh.ag [Sh.s, Sh.p]) (O.t 2)))), (I.mk (some 6) none false (X.v (A.mov (O.t 1)))), (I.mk (some 7) none false (X.call (O.k (V.fn 116 [] [])) [(O.t 5), (O.t 6)])), (I.mk (some 8) none false (X.v (A.mov (O.t 7)))), (I.mk (some 9) (some (8, true)) false (X.v (A.mov (O.t 1)))), (I.mk (some 10) (some (8, true)) false (X.call (O.k (V.fn 117 [] [])) [(O.t 9)])), (I.mk (some 11) none false (X.v (A.pick (O.t 8) (O.t 10) (O.k (V.bool false))))), (I.mk (some 4) none false (X.v (A.mov (O.t 11))))] []) AC.ret)
def A84 : AC := (AC.seq (AC.reg [.clr [2]] [(I.mk (some 2) none false (X.box (O.t 0))), (I.mk (some 4) none false (X.v (A.mov (O.k (V.bool false)))))] []) A84_1)
def an84 : List An := [{ id := 0, pre := [.clr [2]], ep := [], lin := [], sp := [] }]
theorem c84 : cC Try.prog Try.f84.ntmps an84 (Try.f84.body.getD .skip) = some A84 := by kernel_rfl
structure H84 (D : Den) (σ : Sig) (F : Nat) : Prop where
  c116 : ∀ (x0 : (Int × (List (Int × Int)))) (x1 : (List Int)) r, i_hasNodes F x0 x1 = some r → D 116 [Enc.enc x0, Enc.enc x1] = some (Enc.enc (r : Bool))
  g116 : σ 116 = some (0, false)
  c117 : ∀ (x0 : (List Int)) r, i_increasing F x0 = some r → D 117 [Enc.enc x0] = some (Enc.enc (r : Bool))
  g117 : σ 117 = some (0, false)
abbrev R84 (r : Bool) : (Nat → V) → Prop := RR Try.prog [.tmp 4] 0 false (Enc.enc (r : Bool))
section
variable {D : Den} {σ : Sig} {F : Nat} {r : Bool}
def i_isSet (F : Nat) (g_1 : (Int × (List (Int × Int)))) (set_2 : (List Int)) : Option Bool :=
  (i_hasNodes F g_1 set_2).bind fun r_3 =>
  bif r_3 then
    (i_increasing F set_2).bind fun r_4 =>
    some r_4
  else
    some false
theorem t84 (H : H84 D σ F) (g_1 : (Int × (List (Int × Int)))) (set_2 : (List Int)) (s : Nat → V) (hs : Facts [(0, (.agg [(.int .i64 g_1.1), (Enc.enc (g_1.2 : List (Int × Int)))])), (1, (Enc.enc (set_2 : List Int)))] s) (h : i_isSet F g_1 set_2 = some r) : Run D σ (R84 r) (.run A84 []) s := by
  unfold i_isSet at h
  obtain ⟨h0, h1⟩ := hs
  refine .seq ?_
  refine run_reg ?_
  refine e_clr ?_
  refine e_end ?_
  refine g_box (.agg [(.int .i64 g_1.1), (Enc.enc (g_1.2 : List (Int × Int)))]) (rd_of (keep_clear (s := s) (pk := [2]) h0 rfl (map_agg (maps_cons rfl (maps_cons (Enc.map_enc _ (g_1.2 : List (Int × Int))) maps_nil)))) rfl) (gone_clear (s := s) (pk := [2]) (t := 2) rfl) rfl ?_
  refine g_v0 (.bool false) rfl rfl ?_
  refine g_end ?_
  refine e_end ?_
  refine renew [(1, (Enc.enc (set_2 : List Int))), (2, (.ref (.bx 2) 0 [] (.agg [(.int .i64 g_1.1), (Enc.enc (g_1.2 : List (Int × Int)))]))), (4, (.bool false))] ⟨(keep_clear (s := s) (pk := [2]) h1 rfl (Enc.map_enc _ (set_2 : List Int))), rfl, rfl⟩ ?_
  rintro s ⟨h1, h2, h4⟩
  refine .nsq ?_
  refine .seq ?_
  refine run_reg ?_
  refine e_end ?_
  refine g_v1 (t := 2) (u := (.ref (.bx 2) 0 [] (.agg [(.int .i64 g_1.1), (Enc.enc (g_1.2 : List (Int × Int)))]))) (.agg [(.int .i64 g_1.1), (Enc.enc (g_1.2 : List (Int × Int)))]) h2 rfl rfl ?_
  refine g_v1 (t := 1) (u := (Enc.enc (set_2 : List Int))) (Enc.enc (set_2 : List Int)) h1 rfl rfl ?_
  obtain ⟨r_3, E_r_3, h⟩ := bind_some h
  refine g_call (m := 0) (al := false) (r := (Enc.enc (r_3 : Bool))) [Enc.enc (g_1 : (Int × (List (Int × Int)))), Enc.enc (set_2 : (List Int))] (ta_cons (v := (.agg [(.int .i64 g_1.1), (Enc.enc (g_1.2 : List (Int × Int)))])) rfl rfl (Enc.erase_enc (g_1 : (Int × (List (Int × Int))))) (ta_cons (v := (Enc.enc (set_2 : List Int))) rfl rfl (Enc.erase_enc (set_2 : (List Int))) ta_nil)) (H.c116 _ _ _ E_r_3) H.g116 rfl rfl rfl rfl ?_
  refine g_v1 (t := 7) (u := (.bool r_3)) (.bool r_3) rfl rfl rfl ?_
  refine split_on (c := r_3) h (fun hg4 h => ?_) (fun hg4 h => ?_)
  · refine g_yes (Eq.trans (b := .bool r_3) rfl (congrArg V.bool hg4)) (g_v1 (t := 1) (u := (Enc.enc (set_2 : List Int))) (Enc.enc (set_2 : List Int)) h1 rfl rfl ?_)
    obtain ⟨r_4, E_r_4, h⟩ := bind_some h
    refine g_yes (Eq.trans (b := .bool r_3) rfl (congrArg V.bool hg4)) (g_call (m := 0) (al := false) (r := (Enc.enc (r_4 : Bool))) [Enc.enc (set_2 : (List Int))] (ta_cons (v := (Enc.enc (set_2 : List Int))) rfl rfl (Enc.erase_enc (set_2 : (List Int))) ta_nil) (H.c117 _ _ E_r_4) H.g117 rfl rfl rfl rfl ?_)
    refine g_v2 (t1 := 8) (t2 := 10) (u1 := (.bool true)) (u2 := (.bool r_4)) (.bool r_4) (Eq.trans (b := .bool r_3) rfl (congrArg V.bool hg4)) rfl rfl rfl ?_
    refine g_v1 (t := 11) (u := (.bool r_4)) (.bool r_4) rfl rfl rfl ?_
    refine g_end ?_
    refine e_end ?_
    refine renew [(4, (.bool r_4))] rfl ?_
    rintro s h4
    refine .nsq ?_
    refine .ret ?_
    have hr := Option.some.inj h
    subst hr
    exact rrA (res_tmp h4) rfl
  · refine g_no (Eq.trans (b := .bool r_3) rfl (congrArg V.bool hg4)) ?_
    refine g_no (Eq.trans (b := .bool r_3) rfl (congrArg V.bool hg4)) ?_
    refine g_v2 (t1 := 8) (t2 := 10) (u1 := (.bool false)) (u2 := (.tup [])) (.bool false) (Eq.trans (b := .bool r_3) rfl (congrArg V.bool hg4)) rfl rfl rfl ?_
    refine g_v1 (t := 11) (u := (.bool false)) (.bool false) rfl rfl rfl ?_
    refine g_end ?_
    refine e_end ?_
    refine renew [(4, (.bool false))] rfl ?_
    rintro s h4
    refine .nsq ?_
    refine .ret ?_
    have hr := Option.some.inj h
    subst hr
    exact rrA (res_tmp h4) rfl
end
def e84 (F : Nat) : Ent := ⟨84, da (fun (x : ((Int × (List (Int × Int))) × (List Int) × Unit)) => i_isSet F x.1 x.2.1) (fun (r : Bool) => (Enc.enc (r : Bool))), 0, false, selF []⟩
theorem p84 {F : Nat} {x0 : (Int × (List (Int × Int)))} {x1 : (List Int)} {r : Bool} (h : i_isSet F x0 x1 = some r) : (e84 F).den [Enc.enc x0, Enc.enc x1] = some (Enc.enc (r : Bool)) := da_put (f := fun (x : ((Int × (List (Int × Int))) × (List Int) × Unit)) => i_isSet F x.1 x.2.1) (t := fun (r : Bool) => (Enc.enc (r : Bool))) (x0, x1, ()) h
theorem o84 {D : Den} {σ : Sig} {F : Nat} (hF : Fits2 Try.prog D σ) (H : H84 D σ F) : (e84 F).Ok Try.prog := by
  refine ⟨fun args r h => ?_, ⟨Try.f84, Try.func84, rfl, rfl⟩⟩
  obtain ⟨⟨x0, x1, _⟩, y, rfl, hy, rfl⟩ := da_open h
  exact contract_run hF (by kernel_rfl) Try.func84 rfl c84 (show 2 ≤ Try.f84.ntmps by decide) (t84 H x0 x1 _ ⟨rfl, rfl⟩ hy)
/- loop.example/g01109/impl.isPathDecomposition$1 -/
def A83_1 : AC := (AC.seq (AC.reg [] [(I.mk (some 4) none false (X.v (A.load (Sh.ag [Sh.s, Sh.p]) (O.t 1)))), (I.mk (some 5) none false (X.v (A.mov (O.t 0)))), (I.mk (some 6) none false (X.call (O.k (V.fn 84 [] [])) [(O.t 4), (O.t 5)])), (I.mk (some 7) none false (X.v (A.un UnOp.not (O.t 6)))), (I.mk (some 3) none false (X.v (A.mov (O.t 7))))] []) AC.ret)
def A83 : AC := (AC.seq (AC.reg [] [(I.mk (some 3) none false (X.v (A.mov (O.k (V.bool false)))))] []) A83_1)
def an83 : List An := []
theorem c83 : cC Try.prog Try.f83.ntmps an83 (Try.f83.body.getD .skip) = some A83 := by kernel_rfl
structure H83 (D : Den) (σ : Sig) (F : Nat) : Prop where
  c84 : ∀ (x0 : (Int × (List (Int × Int)))) (x1 : (List Int)) r, i_isSet F x0 x1 = some r → D 84 [Enc.enc x0, Enc.enc x1] = some (Enc.enc (r : Bool))
  g84 : σ 84 = some (0, false)
abbrev R83 (r : Bool) : (Nat → V) → Prop := RR Try.prog [.tmp 3] 0 false (Enc.enc (r : Bool))
section
variable {D : Den} {σ : Sig} {F : Nat} {r : Bool}
def i_isPathDecomposition_1 (F : Nat) (bag_1 : (List Int)) (rf_2 : (Rf (Int × (List (Int × Int))))) : Option Bool :=
  (i_isSet F rf_2.v bag_1).bind fun r_3 =>
  some (!r_3)
theorem t83 (H : H83 D σ F) (bag_1 : (List Int)) (rf_2 : (Rf (Int × (List (Int × Int))))) (s : Nat → V) (hs : Facts [(0, (Enc.enc (bag_1 : List Int))), (1, (.ref .sh 0 [] (.agg [(.int .i64 rf_2.v.1), (Enc.enc (rf_2.v.2 : List (Int × Int)))])))] s) (h : i_isPathDecomposition_1 F bag_1 rf_2 = some r) : Run D σ (R83 r) (.run A83 []) s := by
  unfold i_isPathDecomposition_1 at h
  obtain ⟨h0, h1⟩ := hs
  refine .seq ?_
  refine run_reg ?_
  refine e_end ?_
  refine g_v0 (.bool false) rfl rfl ?_
  refine g_end ?_
  refine e_end ?_
  refine renew [(0, (Enc.enc (bag_1 : List Int))), (1, (.ref .sh 0 [] (.agg [(.int .i64 rf_2.v.1), (Enc.enc (rf_2.v.2 : List (Int × Int)))]))), (3, (.bool false))] ⟨h0, h1, rfl⟩ ?_
  rintro s ⟨h0, h1, h3⟩
  refine .nsq ?_
  refine .seq ?_
  refine run_reg ?_
  refine e_end ?_
  refine g_v1 (t := 1) (u := (.ref .sh 0 [] (.agg [(.int .i64 rf_2.v.1), (Enc.enc (rf_2.v.2 : List (Int × Int)))]))) (.agg [(.int .i64 rf_2.v.1), (Enc.enc (rf_2.v.2 : List (Int × Int)))]) h1 rfl rfl ?_
  refine g_v1 (t := 0) (u := (Enc.enc (bag_1 : List Int))) (Enc.enc (bag_1 : List Int)) h0 rfl rfl ?_
  obtain ⟨r_3, E_r_3, h⟩ := bind_some h
  refine g_call (m := 0) (al := false) (r := (Enc.enc (r_3 : Bool))) [Enc.enc (rf_2.v : (Int × (List (Int × Int)))), Enc.enc (bag_1 : (List Int))] (ta_cons (v := (.agg [(.int .i64 rf_2.v.1), (Enc.enc (rf_2.v.2 : List (Int × Int)))])) rfl rfl (Enc.erase_enc (rf_2.v : (Int × (List (Int × Int))))) (ta_cons (v := (Enc.enc (bag_1 : List Int))) rfl rfl (Enc.erase_enc (bag_1 : (List Int))) ta_nil)) (H.c84 _ _ _ E_r_3) H.g84 rfl rfl rfl rfl ?_
  refine g_v1 (t := 6) (u := (.bool r_3)) (.bool (!r_3)) rfl rfl rfl ?_
  refine g_v1 (t := 7) (u := (.bool (!r_3))) (.bool (!r_3)) rfl rfl rfl ?_
  refine g_end ?_
  refine e_end ?_
  refine renew [(3, (.bool (!r_3)))] rfl ?_
  rintro s h3
  refine .nsq ?_
  refine .ret ?_
  have hr := Option.some.inj h
  subst hr
  exact rrA (res_tmp h3) rfl
end
def e83 (F : Nat) : Ent := ⟨83, da (fun (x : ((List Int) × (Rf (Int × (List (Int × Int)))) × Unit)) => i_isPathDecomposition_1 F x.1 x.2.1) (fun (r : Bool) => (Enc.enc (r : Bool))), 0, false, selF []⟩
theorem p83 {F : Nat} {x0 : (List Int)} {x1 : (Rf (Int × (List (Int × Int))))} {r : Bool} (h : i_isPathDecomposition_1 F x0 x1 = some r) : (e83 F).den [Enc.enc x0, Arg.arg x1] = some (Enc.enc (r : Bool)) := da_put (f := fun (x : ((List Int) × (Rf (Int × (List (Int × Int)))) × Unit)) => i_isPathDecomposition_1 F x.1 x.2.1) (t := fun (r : Bool) => (Enc.enc (r : Bool))) (x0, x1, ()) h
theorem o83 {D : Den} {σ : Sig} {F : Nat} (hF : Fits2 Try.prog D σ) (H : H83 D σ F) : (e83 F).Ok Try.prog := by
  refine ⟨fun args r h => ?_, ⟨Try.f83, Try.func83, rfl, rfl⟩⟩
  obtain ⟨⟨x0, x1, _⟩, y, rfl, hy, rfl⟩ := da_open h
  exact contract_run hF (by kernel_rfl) Try.func83 rfl c83 (show 2 ≤ Try.f83.ntmps by decide) (t83 H x0 x1 _ ⟨rfl, rfl⟩ hy)
/- slices.IndexFunc[[][]int,[]int] -/
def A115s1_5 : AC := (AC.cond (O.t 16) (AC.seq (AC.reg [] [(I.mk (some 17) none false (X.v (A.mov (O.t 5)))), (I.mk (some 4) none false (X.v (A.mov (O.t 17))))] []) AC.ret) AC.skip)
def A115s1_4 : AC := (AC.seq (AC.reg [] [(I.mk (some 11) none false (X.v (A.mov (O.t 1)))), (I.mk (some 12) none false (X.v (A.mov (O.t 0)))), (I.mk (some 13) none false (X.v (A.mov (O.t 5)))), (I.mk (some 14) none false (X.v (A.idx (O.t 12) (O.t 13) 1))), (I.mk (some 15) none false (X.v (A.load Sh.p (O.t 14)))), (I.mk (some 16) none false (X.call (O.t 11) [(O.t 15)]))] []) A115s1_5)
def A115s1_6 : AC := (AC.reg [] [(I.mk (some 18) none false (X.v (A.bin BinOp.add (O.t 8) (O.k (V.int IntKind.i64 (Int.ofNat 1)))))), (I.mk (some 8) none false (X.v (A.mov (O.t 18))))] [])
def A115s1_3 : AC := (AC.seq (AC.block 1 (AC.seq (AC.reg [] [(I.mk (some 10) none false (X.v (A.mov (O.t 8)))), (I.mk (some 5) none false (X.v (A.mov (O.t 10))))] []) A115s1_4)) A115s1_6)
def A115s1_2 : AC := (AC.seq (AC.cond (O.t 9) AC.skip (AC.exit 0)) A115s1_3)
def A115s1_1 : AC := (AC.seq (AC.reg [] [(I.mk (some 9) none false (X.v (A.bin BinOp.lss (O.t 8) (O.t 7))))] []) A115s1_2)
def A115s1_7 : AC := (AC.seq (AC.reg [] [(I.mk (some 4) none false (X.v (A.mov (O.k (V.int IntKind.i64 (Int.negSucc 0))))))] []) AC.ret)
def A115s1_9 : AC := (AC.block 0 (AC.loop A115s1_1))
def A115s1_8 : AC := (AC.seq (AC.seq (AC.reg [] [(I.mk (some 6) none false (X.v (A.mov (O.t 0)))), (I.mk (some 7) none false (X.v (A.len (O.t 6)))), (I.mk (some 8) none false (X.v (A.mov (O.k (V.int IntKind.i64 (Int.ofNat 0))))))] []) A115s1_9) A115s1_7)
def A115s1 : AC := (AC.seq (AC.reg [] [(I.mk (some 4) none false (X.v (A.mov (O.k (V.int IntKind.i64 (Int.ofNat 0))))))] []) A115s1_8)
def an115s1 : List An := []
theorem c115s1 : cC Try.prog Try.f115.ntmps an115s1 (Try.f115.body.getD .skip) = some A115s1 := by kernel_rfl
structure H115s1 (D : Den) (σ : Sig) (F : Nat) : Prop where
  c83 : ∀ (x0 : (List Int)) (x1 : (Rf (Int × (List (Int × Int))))) r, i_isPathDecomposition_1 F x0 x1 = some r → D 83 [Enc.enc x0, Arg.arg x1] = some (Enc.enc (r : Bool))
  g83 : σ 83 = some (0, false)
abbrev R115s1 (r : Int) : (Nat → V) → Prop := RR Try.prog [.tmp 4] 0 false (Enc.enc (r : Int))
section
variable {D : Den} {σ : Sig} {F : Nat} {r : Int}
def slices_IndexFunc_int_int_of_i_isPathDecomposition_1_l1 (F : Nat) (s_1 : (List (List Int))) (f_2 : (Cl 83 Unit ((Rf (Int × (List (Int × Int)))) × Unit)))  : Nat → Int → Option Int
  | 0, _ => none
  | k + 1, t8_5 =>
    bif decide (t8_5 < (s_1.length : Int)) then
      (idx s_1 t8_5).bind fun e_8 =>
      (i_isPathDecomposition_1 F e_8 f_2.env.1).bind fun r_9 =>
      bif r_9 then
        some t8_5
      else
        (slices_IndexFunc_int_int_of_i_isPathDecomposition_1_l1 F s_1 f_2 k) (w64 (t8_5 + 1))
    else
      some (-1)
theorem t_f115s1_l1 (H : H115s1 D σ F) (s_1 : (List (List Int))) (f_2 : (Cl 83 Unit ((Rf (Int × (List (Int × Int)))) × Unit)))  : ∀ (k : Nat) (t8_5 : Int) (s : Nat → V), Facts [(0, (Enc.enc (s_1 : List (List Int)))), (1, (.fn 83 [] [(.ref .sh 0 [] (.agg [(.int .i64 f_2.env.1.v.1), (Enc.enc (f_2.env.1.v.2 : List (Int × Int)))]))])), (4, (.int .i64 0)), (7, (.int .i64 (s_1.length : Int))), (8, (.int .i64 t8_5))] s → slices_IndexFunc_int_int_of_i_isPathDecomposition_1_l1 F s_1 f_2 k t8_5 = some r → Run D σ (R115s1 r) (.run A115s1_1 [.lp A115s1_1, .bk 0, .sq A115s1_7]) s := by
  intro k
  induction k with
  | zero => intro t8_5 s _ h; exact nomatch (h : (none : Option _) = some r)
  | succ k ih =>
    intro t8_5 s hs h
    rw [slices_IndexFunc_int_int_of_i_isPathDecomposition_1_l1] at h
    obtain ⟨h0, h1, h4, h7, h8⟩ := hs
    refine .seq ?_
    refine run_reg ?_
    refine e_end ?_
    refine g_v2 (t1 := 8) (t2 := 7) (u1 := (.int .i64 t8_5)) (u2 := (.int .i64 (s_1.length : Int))) (.bool (decide (t8_5 < (s_1.length : Int)))) h8 h7 rfl rfl ?_
    refine g_end ?_
    refine e_end ?_
    refine renew [(0, (Enc.enc (s_1 : List (List Int)))), (1, (.fn 83 [] [(.ref .sh 0 [] (.agg [(.int .i64 f_2.env.1.v.1), (Enc.enc (f_2.env.1.v.2 : List (Int × Int)))]))])), (4, (.int .i64 0)), (7, (.int .i64 (s_1.length : Int))), (8, (.int .i64 t8_5)), (9, (.bool (decide (t8_5 < (s_1.length : Int)))))] ⟨h0, h1, h4, h7, h8, rfl⟩ ?_
    rintro s ⟨h0, h1, h4, h7, h8, h9⟩
    refine .nsq ?_
    refine .seq ?_
    refine run_cond (t := decide (t8_5 < (s_1.length : Int))) h9 h (fun h => ?_) (fun h => ?_)
    · refine .skip ?_
      refine .nsq ?_
      refine .seq ?_
      refine .block ?_
      refine .seq ?_
      refine run_reg ?_
      refine e_end ?_
      refine g_v1 (t := 8) (u := (.int .i64 t8_5)) (.int .i64 t8_5) h8 rfl rfl ?_
      refine g_v1 (t := 10) (u := (.int .i64 t8_5)) (.int .i64 t8_5) rfl rfl rfl ?_
      refine g_end ?_
      refine e_end ?_
      refine renew [(0, (Enc.enc (s_1 : List (List Int)))), (1, (.fn 83 [] [(.ref .sh 0 [] (.agg [(.int .i64 f_2.env.1.v.1), (Enc.enc (f_2.env.1.v.2 : List (Int × Int)))]))])), (4, (.int .i64 0)), (5, (.int .i64 t8_5)), (7, (.int .i64 (s_1.length : Int))), (8, (.int .i64 t8_5))] ⟨h0, h1, h4, rfl, h7, h8⟩ ?_
      rintro s ⟨h0, h1, h4, h5, h7, h8⟩
      refine .nsq ?_
      refine .seq ?_
      refine run_reg ?_
      refine e_end ?_
      refine g_v1 (t := 1) (u := (.fn 83 [] [(.ref .sh 0 [] (.agg [(.int .i64 f_2.env.1.v.1), (Enc.enc (f_2.env.1.v.2 : List (Int × Int)))]))])) (.fn 83 [] [(.ref .sh 0 [] (.agg [(.int .i64 f_2.env.1.v.1), (Enc.enc (f_2.env.1.v.2 : List (Int × Int)))]))]) h1 rfl rfl ?_
      refine g_v1 (t := 0) (u := (Enc.enc (s_1 : List (List Int)))) (Enc.enc (s_1 : List (List Int))) h0 rfl rfl ?_
      refine g_v1 (t := 5) (u := (.int .i64 t8_5)) (.int .i64 t8_5) h5 rfl rfl ?_
      obtain ⟨e_8, E_e_8, h⟩ := bind_some h
      refine g_v (.ref .sh 0 [] (Enc.enc (e_8 : List Int))) (ev_idx (t := .sh) (lo := 0) (xs := s_1) rfl rfl E_e_8 rfl rfl) ?_
      refine g_v1 (t := 14) (u := (.ref .sh 0 [] (Enc.enc (e_8 : List Int)))) (Enc.enc (e_8 : List Int)) rfl rfl rfl ?_
      obtain ⟨r_9, E_r_9, h⟩ := bind_some h
      refine g_callF (m := 0) (al := false) (r := (Enc.enc (r_9 : Bool))) (fs := []) (env := [(.ref .sh 0 [] (.agg [(.int .i64 f_2.env.1.v.1), (Enc.enc (f_2.env.1.v.2 : List (Int × Int)))]))]) (us := []) (ws := [Arg.arg (f_2.env.1 : (Rf (Int × (List (Int × Int)))))]) rfl erases_nil (erases_cons (erase_ref (Enc.erase_enc (f_2.env.1.v : (Int × (List (Int × Int)))))) erases_nil) rfl [Enc.enc (e_8 : (List Int))] (ta_cons (v := (Enc.enc (e_8 : List Int))) rfl rfl (Enc.erase_enc (e_8 : (List Int))) ta_nil) (H.c83 _ _ _ E_r_9) H.g83 rfl rfl rfl rfl ?_
      refine g_end ?_
      refine e_end ?_
      refine renew [(0, (Enc.enc (s_1 : List (List Int)))), (1, (.fn 83 [] [(.ref .sh 0 [] (.agg [(.int .i64 f_2.env.1.v.1), (Enc.enc (f_2.env.1.v.2 : List (Int × Int)))]))])), (4, (.int .i64 0)), (5, (.int .i64 t8_5)), (7, (.int .i64 (s_1.length : Int))), (8, (.int .i64 t8_5)), (16, (.bool r_9))] ⟨h0, h1, h4, h5, h7, h8, rfl⟩ ?_
      rintro s ⟨h0, h1, h4, h5, h7, h8, h16⟩
      refine .nsq ?_
      refine run_cond (t := r_9) h16 h (fun h => ?_) (fun h => ?_)
      · refine .seq ?_
        refine run_reg ?_
        refine e_end ?_
        refine g_v1 (t := 5) (u := (.int .i64 t8_5)) (.int .i64 t8_5) h5 rfl rfl ?_
        refine g_v1 (t := 17) (u := (.int .i64 t8_5)) (.int .i64 t8_5) rfl rfl rfl ?_
        refine g_end ?_
        refine e_end ?_
        refine renew [(0, (Enc.enc (s_1 : List (List Int)))), (1, (.fn 83 [] [(.ref .sh 0 [] (.agg [(.int .i64 f_2.env.1.v.1), (Enc.enc (f_2.env.1.v.2 : List (Int × Int)))]))])), (4, (.int .i64 t8_5)), (7, (.int .i64 (s_1.length : Int))), (8, (.int .i64 t8_5))] ⟨h0, h1, rfl, h7, h8⟩ ?_
        rintro s ⟨h0, h1, h4, h7, h8⟩
        refine .nsq ?_
        refine .ret ?_
        have hr := Option.some.inj h
        subst hr
        exact rrA (res_tmp h4) rfl
      · refine .skip ?_
        refine .nbk ?_
        refine .nsq ?_
        refine run_reg ?_
        refine e_end ?_
        refine g_v1 (t := 8) (u := (.int .i64 t8_5)) (.int .i64 (w64 (t8_5 + 1))) h8 rfl rfl ?_
        refine g_v1 (t := 18) (u := (.int .i64 (w64 (t8_5 + 1)))) (.int .i64 (w64 (t8_5 + 1))) rfl rfl rfl ?_
        refine g_end ?_
        refine e_end ?_
        refine renew [(0, (Enc.enc (s_1 : List (List Int)))), (1, (.fn 83 [] [(.ref .sh 0 [] (.agg [(.int .i64 f_2.env.1.v.1), (Enc.enc (f_2.env.1.v.2 : List (Int × Int)))]))])), (4, (.int .i64 0)), (7, (.int .i64 (s_1.length : Int))), (8, (.int .i64 (w64 (t8_5 + 1))))] ⟨h0, h1, h4, h7, rfl⟩ ?_
        rintro s ⟨h0, h1, h4, h7, h8⟩
        refine .nlp ?_
        exact ih (w64 (t8_5 + 1)) _ ⟨h0, h1, h4, h7, h8⟩ h
    · refine .exit ?_
      refine .esq ?_
      refine .elp ?_
      refine .ebk ?_
      refine .nsq ?_
      refine .seq ?_
      refine run_reg ?_
      refine e_end ?_
      refine g_v0 (.int .i64 (-1)) rfl rfl ?_
      refine g_end ?_
      refine e_end ?_
      refine renew [(4, (.int .i64 (-1)))] rfl ?_
      rintro s h4
      refine .nsq ?_
      refine .ret ?_
      have hr := Option.some.inj h
      subst hr
      exact rrA (res_tmp h4) rfl
def slices_IndexFunc_int_int_of_i_isPathDecomposition_1 (F : Nat) (s_1 : (List (List Int))) (f_2 : (Cl 83 Unit ((Rf (Int × (List (Int × Int)))) × Unit))) : Option Int :=
  slices_IndexFunc_int_int_of_i_isPathDecomposition_1_l1 F s_1 f_2 F 0
theorem t115s1 (H : H115s1 D σ F) (s_1 : (List (List Int))) (f_2 : (Cl 83 Unit ((Rf (Int × (List (Int × Int)))) × Unit))) (s : Nat → V) (hs : Facts [(0, (Enc.enc (s_1 : List (List Int)))), (1, (.fn 83 [] [(.ref .sh 0 [] (.agg [(.int .i64 f_2.env.1.v.1), (Enc.enc (f_2.env.1.v.2 : List (Int × Int)))]))]))] s) (h : slices_IndexFunc_int_int_of_i_isPathDecomposition_1 F s_1 f_2 = some r) : Run D σ (R115s1 r) (.run A115s1 []) s := by
  unfold slices_IndexFunc_int_int_of_i_isPathDecomposition_1 at h
  obtain ⟨h0, h1⟩ := hs
  refine .seq ?_
  refine run_reg ?_
  refine e_end ?_
  refine g_v0 (.int .i64 0) rfl rfl ?_
  refine g_end ?_
  refine e_end ?_
  refine renew [(0, (Enc.enc (s_1 : List (List Int)))), (1, (.fn 83 [] [(.ref .sh 0 [] (.agg [(.int .i64 f_2.env.1.v.1), (Enc.enc (f_2.env.1.v.2 : List (Int × Int)))]))])), (4, (.int .i64 0))] ⟨h0, h1, rfl⟩ ?_
  rintro s ⟨h0, h1, h4⟩
  refine .nsq ?_
  refine .seq ?_
  refine .seq ?_
  refine run_reg ?_
  refine e_end ?_
  refine g_v1 (t := 0) (u := (Enc.enc (s_1 : List (List Int)))) (Enc.enc (s_1 : List (List Int))) h0 rfl rfl ?_
  refine g_v (.int .i64 (s_1.length : Int)) (ev_len (xs := s_1) rfl) ?_
  refine g_v0 (.int .i64 0) rfl rfl ?_
  refine g_end ?_
  refine e_end ?_
  refine renew [(0, (Enc.enc (s_1 : List (List Int)))), (1, (.fn 83 [] [(.ref .sh 0 [] (.agg [(.int .i64 f_2.env.1.v.1), (Enc.enc (f_2.env.1.v.2 : List (Int × Int)))]))])), (4, (.int .i64 0)), (7, (.int .i64 (s_1.length : Int))), (8, (.int .i64 0))] ⟨h0, h1, h4, rfl, rfl⟩ ?_
  rintro s ⟨h0, h1, h4, h7, h8⟩
  refine .nsq ?_
  refine .block ?_
  refine .loop ?_
  exact t_f115s1_l1 H s_1 f_2 F 0 _ ⟨h0, h1, h4, h7, h8⟩ h
end
def e115s1 (F : Nat) : Ent := ⟨115, da (fun (x : ((List (List Int)) × (Cl 83 Unit ((Rf (Int × (List (Int × Int)))) × Unit)) × Unit)) => slices_IndexFunc_int_int_of_i_isPathDecomposition_1 F x.1 x.2.1) (fun (r : Int) => (Enc.enc (r : Int))), 0, false, selF [(1, 83)]⟩
theorem p115s1 {F : Nat} {x0 : (List (List Int))} {x1 : (Cl 83 Unit ((Rf (Int × (List (Int × Int)))) × Unit))} {r : Int} (h : slices_IndexFunc_int_int_of_i_isPathDecomposition_1 F x0 x1 = some r) : (e115s1 F).den [Enc.enc x0, Arg.arg x1] = some (Enc.enc (r : Int)) := da_put (f := fun (x : ((List (List Int)) × (Cl 83 Unit ((Rf (Int × (List (Int × Int)))) × Unit)) × Unit)) => slices_IndexFunc_int_int_of_i_isPathDecomposition_1 F x.1 x.2.1) (t := fun (r : Int) => (Enc.enc (r : Int))) (x0, x1, ()) h
theorem o115s1 {D : Den} {σ : Sig} {F : Nat} (hF : Fits2 Try.prog D σ) (H : H115s1 D σ F) : (e115s1 F).Ok Try.prog := by
  refine ⟨fun args r h => ?_, ⟨Try.f115, Try.func115, rfl, rfl⟩⟩
  obtain ⟨⟨x0, x1, _⟩, y, rfl, hy, rfl⟩ := da_open h
  exact contract_run hF (by kernel_rfl) Try.func115 rfl c115s1 (show 2 ≤ Try.f115.ntmps by decide) (t115s1 H x0 x1 _ ⟨rfl, rfl⟩ hy)
/- slices.ContainsFunc[[][]int,[]int] -/
def A82s1_1 : AC := (AC.seq (AC.reg [] [(I.mk (some 5) none false (X.v (A.mov (O.t 0)))), (I.mk (some 6) none false (X.v (A.mov (O.t 1)))), (I.mk (some 7) none false (X.call (O.k (V.fn 115 [] [])) [(O.t 5), (O.t 6)])), (I.mk (some 8) none false (X.v (A.bin BinOp.geq (O.t 7) (O.k (V.int IntKind.i64 (Int.ofNat 0)))))), (I.mk (some 4) none false (X.v (A.mov (O.t 8))))] []) AC.ret)
def A82s1 : AC := (AC.seq (AC.reg [] [(I.mk (some 4) none false (X.v (A.mov (O.k (V.bool false)))))] []) A82s1_1)
def an82s1 : List An := []
theorem c82s1 : cC Try.prog Try.f82.ntmps an82s1 (Try.f82.body.getD .skip) = some A82s1 := by kernel_rfl
structure H82s1 (D : Den) (σ : Sig) (F : Nat) : Prop where
  c115s1 : ∀ (x0 : (List (List Int))) (x1 : (Cl 83 Unit ((Rf (Int × (List (Int × Int)))) × Unit))) r, slices_IndexFunc_int_int_of_i_isPathDecomposition_1 F x0 x1 = some r → D 115 [Enc.enc x0, Arg.arg x1] = some (Enc.enc (r : Int))
  g115s1 : σ 115 = some (0, false)
abbrev R82s1 (r : Bool) : (Nat → V) → Prop := RR Try.prog [.tmp 4] 0 false (Enc.enc (r : Bool))
section
variable {D : Den} {σ : Sig} {F : Nat} {r : Bool}
def slices_ContainsFunc_int_int_of_i_isPathDecomposition_1 (F : Nat) (s_1 : (List (List Int))) (f_2 : (Cl 83 Unit ((Rf (Int × (List (Int × Int)))) × Unit))) : Option Bool :=
  (slices_IndexFunc_int_int_of_i_isPathDecomposition_1 F s_1 f_2).bind fun r_3 =>
  some (decide (r_3 ≥ 0))
theorem t82s1 (H : H82s1 D σ F) (s_1 : (List (List Int))) (f_2 : (Cl 83 Unit ((Rf (Int × (List (Int × Int)))) × Unit))) (s : Nat → V) (hs : Facts [(0, (Enc.enc (s_1 : List (List Int)))), (1, (.fn 83 [] [(.ref .sh 0 [] (.agg [(.int .i64 f_2.env.1.v.1), (Enc.enc (f_2.env.1.v.2 : List (Int × Int)))]))]))] s) (h : slices_ContainsFunc_int_int_of_i_isPathDecomposition_1 F s_1 f_2 = some r) : Run D σ (R82s1 r) (.run A82s1 []) s := by
  unfold slices_ContainsFunc_int_int_of_i_isPathDecomposition_1 at h
  obtain ⟨h0, h1⟩ := hs
  refine .seq ?_
  refine run_reg ?_
  refine e_end ?_
  refine g_v0 (.bool false) rfl rfl ?_
  refine g_end ?_
  refine e_end ?_
  refine renew [(0, (Enc.enc (s_1 : List (List Int)))), (1, (.fn 83 [] [(.ref .sh 0 [] (.agg [(.int .i64 f_2.env.1.v.1), (Enc.enc (f_2.env.1.v.2 : List (Int × Int)))]))])), (4, (.bool false))] ⟨h0, h1, rfl⟩ ?_
  rintro s ⟨h0, h1, h4⟩
  refine .nsq ?_
  refine .seq ?_
  refine run_reg ?_
  refine e_end ?_
  refine g_v1 (t := 0) (u := (Enc.enc (s_1 : List (List Int)))) (Enc.enc (s_1 : List (List Int))) h0 rfl rfl ?_
  refine g_v1 (t := 1) (u := (.fn 83 [] [(.ref .sh 0 [] (.agg [(.int .i64 f_2.env.1.v.1), (Enc.enc (f_2.env.1.v.2 : List (Int × Int)))]))])) (.fn 83 [] [(.ref .sh 0 [] (.agg [(.int .i64 f_2.env.1.v.1), (Enc.enc (f_2.env.1.v.2 : List (Int × Int)))]))]) h1 rfl rfl ?_
  obtain ⟨r_3, E_r_3, h⟩ := bind_some h
  refine g_call (m := 0) (al := false) (r := (Enc.enc (r_3 : Int))) [Enc.enc (s_1 : (List (List Int))), Arg.arg (f_2 : (Cl 83 Unit ((Rf (Int × (List (Int × Int)))) × Unit)))] (ta_cons (v := (Enc.enc (s_1 : List (List Int)))) rfl rfl (Enc.erase_enc (s_1 : (List (List Int)))) (ta_cons (v := (.fn 83 [] [(.ref .sh 0 [] (.agg [(.int .i64 f_2.env.1.v.1), (Enc.enc (f_2.env.1.v.2 : List (Int × Int)))]))])) rfl rfl (erase_fn erases_nil (erases_cons (erase_ref (Enc.erase_enc (f_2.env.1.v : (Int × (List (Int × Int)))))) erases_nil)) ta_nil)) (H.c115s1 _ _ _ E_r_3) H.g115s1 rfl rfl rfl rfl ?_
  refine g_v1 (t := 7) (u := (.int .i64 r_3)) (.bool (decide (r_3 ≥ 0))) rfl rfl rfl ?_
  refine g_v1 (t := 8) (u := (.bool (decide (r_3 ≥ 0)))) (.bool (decide (r_3 ≥ 0))) rfl rfl rfl ?_
  refine g_end ?_
  refine e_end ?_
  refine renew [(4, (.bool (decide (r_3 ≥ 0))))] rfl ?_
  rintro s h4
  refine .nsq ?_
  refine .ret ?_
  have hr := Option.some.inj h
  subst hr
  exact rrA (res_tmp h4) rfl
end
def e82s1 (F : Nat) : Ent := ⟨82, da (fun (x : ((List (List Int)) × (Cl 83 Unit ((Rf (Int × (List (Int × Int)))) × Unit)) × Unit)) => slices_ContainsFunc_int_int_of_i_isPathDecomposition_1 F x.1 x.2.1) (fun (r : Bool) => (Enc.enc (r : Bool))), 0, false, selF [(1, 83)]⟩
theorem p82s1 {F : Nat} {x0 : (List (List Int))} {x1 : (Cl 83 Unit ((Rf (Int × (List (Int × Int)))) × Unit))} {r : Bool} (h : slices_ContainsFunc_int_int_of_i_isPathDecomposition_1 F x0 x1 = some r) : (e82s1 F).den [Enc.enc x0, Arg.arg x1] = some (Enc.enc (r : Bool)) := da_put (f := fun (x : ((List (List Int)) × (Cl 83 Unit ((Rf (Int × (List (Int × Int)))) × Unit)) × Unit)) => slices_ContainsFunc_int_int_of_i_isPathDecomposition_1 F x.1 x.2.1) (t := fun (r : Bool) => (Enc.enc (r : Bool))) (x0, x1, ()) h
theorem o82s1 {D : Den} {σ : Sig} {F : Nat} (hF : Fits2 Try.prog D σ) (H : H82s1 D σ F) : (e82s1 F).Ok Try.prog := by
  refine ⟨fun args r h => ?_, ⟨Try.f82, Try.func82, rfl, rfl⟩⟩
  obtain ⟨⟨x0, x1, _⟩, y, rfl, hy, rfl⟩ := da_open h
  exact contract_run hF (by kernel_rfl) Try.func82 rfl c82s1 (show 2 ≤ Try.f82.ntmps by decide) (t82s1 H x0 x1 _ ⟨rfl, rfl⟩ hy)
/- slices.Index[[]int,int] -/
def A118_5 : AC := (AC.cond (O.t 16) (AC.seq (AC.reg [] [(I.mk (some 17) none false (X.v (A.mov (O.t 5)))), (I.mk (some 4) none false (X.v (A.mov (O.t 17))))] []) AC.ret) AC.skip)
def A118_4 : AC := (AC.seq (AC.reg [] [(I.mk (some 11) none false (X.v (A.mov (O.t 1)))), (I.mk (some 12) none false (X.v (A.mov (O.t 0)))), (I.mk (some 13) none false (X.v (A.mov (O.t 5)))), (I.mk (some 14) none false (X.v (A.idx (O.t 12) (O.t 13) 1))), (I.mk (some 15) none false (X.v (A.load Sh.s (O.t 14)))), (I.mk (some 16) none false (X.v (A.bin BinOp.eql (O.t 11) (O.t 15))))] []) A118_5)
def A118_6 : AC := (AC.reg [] [(I.mk (some 18) none false (X.v (A.bin BinOp.add (O.t 8) (O.k (V.int IntKind.i64 (Int.ofNat 1)))))), (I.mk (some 8) none false (X.v (A.mov (O.t 18))))] [])
def A118_3 : AC := (AC.seq (AC.block 1 (AC.seq (AC.reg [] [(I.mk (some 10) none false (X.v (A.mov (O.t 8)))), (I.mk (some 5) none false (X.v (A.mov (O.t 10))))] []) A118_4)) A118_6)
def A118_2 : AC := (AC.seq (AC.cond (O.t 9) AC.skip (AC.exit 0)) A118_3)
def A118_1 : AC := (AC.seq (AC.reg [] [(I.mk (some 9) none false (X.v (A.bin BinOp.lss (O.t 8) (O.t 7))))] []) A118_2)
def A118_7 : AC := (AC.seq (AC.reg [] [(I.mk (some 4) none false (X.v (A.mov (O.k (V.int IntKind.i64 (Int.negSucc 0))))))] []) AC.ret)
def A118_9 : AC := (AC.block 0 (AC.loop A118_1))
def A118_8 : AC := (AC.seq (AC.seq (AC.reg [] [(I.mk (some 6) none false (X.v (A.mov (O.t 0)))), (I.mk (some 7) none false (X.v (A.len (O.t 6)))), (I.mk (some 8) none false (X.v (A.mov (O.k (V.int IntKind.i64 (Int.ofNat 0))))))] []) A118_9) A118_7)
def A118 : AC := (AC.seq (AC.reg [] [(I.mk (some 4) none false (X.v (A.mov (O.k (V.int IntKind.i64 (Int.ofNat 0))))))] []) A118_8)
def an118 : List An := []
theorem c118 : cC Try.prog Try.f118.ntmps an118 (Try.f118.body.getD .skip) = some A118 := by kernel_rfl
structure H118 (D : Den) (σ : Sig) (F : Nat) : Prop where
  mk ::
abbrev R118 (r : Int) : (Nat → V) → Prop := RR Try.prog [.tmp 4] 0 false (Enc.enc (r : Int))
section
variable {D : Den} {σ : Sig} {F : Nat} {r : Int}
def slices_Index_l1 (F : Nat) (s_1 : (List Int)) (v_2 : Int)  : Nat → Int → Option Int
  | 0, _ => none
  | k + 1, t8_4 =>
    bif decide (t8_4 < (s_1.length : Int)) then
      (idx s_1 t8_4).bind fun e_6 =>
      bif (v_2 == e_6) then
        some t8_4
      else
        (slices_Index_l1 F s_1 v_2 k) (w64 (t8_4 + 1))
    else
      some (-1)
theorem t_f118_l1 (H : H118 D σ F) (s_1 : (List Int)) (v_2 : Int)  : ∀ (k : Nat) (t8_4 : Int) (s : Nat → V), Facts [(0, (Enc.enc (s_1 : List Int))), (1, (.int .i64 v_2)), (4, (.int .i64 0)), (7, (.int .i64 (s_1.length : Int))), (8, (.int .i64 t8_4))] s → slices_Index_l1 F s_1 v_2 k t8_4 = some r → Run D σ (R118 r) (.run A118_1 [.lp A118_1, .bk 0, .sq A118_7]) s := by
  intro k
  induction k with
  | zero => intro t8_4 s _ h; exact nomatch (h : (none : Option _) = some r)
  | succ k ih =>
    intro t8_4 s hs h
    rw [slices_Index_l1] at h
    obtain ⟨h0, h1, h4, h7, h8⟩ := hs
    refine .seq ?_
    refine run_reg ?_
    refine e_end ?_
    refine g_v2 (t1 := 8) (t2 := 7) (u1 := (.int .i64 t8_4)) (u2 := (.int .i64 (s_1.length : Int))) (.bool (decide (t8_4 < (s_1.length : Int)))) h8 h7 rfl rfl ?_
    refine g_end ?_
    refine e_end ?_
    refine renew [(0, (Enc.enc (s_1 : List Int))), (1, (.int .i64 v_2)), (4, (.int .i64 0)), (7, (.int .i64 (s_1.length : Int))), (8, (.int .i64 t8_4)), (9, (.bool (decide (t8_4 < (s_1.length : Int)))))] ⟨h0, h1, h4, h7, h8, rfl⟩ ?_
    rintro s ⟨h0, h1, h4, h7, h8, h9⟩
    refine .nsq ?_
    refine .seq ?_
    refine run_cond (t := decide (t8_4 < (s_1.length : Int))) h9 h (fun h => ?_) (fun h => ?_)
    · refine .skip ?_
      refine .nsq ?_
      refine .seq ?_
      refine .block ?_
      refine .seq ?_
      refine run_reg ?_
      refine e_end ?_
      refine g_v1 (t := 8) (u := (.int .i64 t8_4)) (.int .i64 t8_4) h8 rfl rfl ?_
      refine g_v1 (t := 10) (u := (.int .i64 t8_4)) (.int .i64 t8_4) rfl rfl rfl ?_
      refine g_end ?_
      refine e_end ?_
      refine renew [(0, (Enc.enc (s_1 : List Int))), (1, (.int .i64 v_2)), (4, (.int .i64 0)), (5, (.int .i64 t8_4)), (7, (.int .i64 (s_1.length : Int))), (8, (.int .i64 t8_4))] ⟨h0, h1, h4, rfl, h7, h8⟩ ?_
      rintro s ⟨h0, h1, h4, h5, h7, h8⟩
      refine .nsq ?_
      refine .seq ?_
      refine run_reg ?_
      refine e_end ?_
      refine g_v1 (t := 1) (u := (.int .i64 v_2)) (.int .i64 v_2) h1 rfl rfl ?_
      refine g_v1 (t := 0) (u := (Enc.enc (s_1 : List Int))) (Enc.enc (s_1 : List Int)) h0 rfl rfl ?_
      refine g_v1 (t := 5) (u := (.int .i64 t8_4)) (.int .i64 t8_4) h5 rfl rfl ?_
      obtain ⟨e_6, E_e_6, h⟩ := bind_some h
      refine g_v (.ref .sh 0 [] (.int .i64 e_6)) (ev_idx (t := .sh) (lo := 0) (xs := s_1) rfl rfl E_e_6 rfl rfl) ?_
      refine g_v1 (t := 14) (u := (.ref .sh 0 [] (.int .i64 e_6))) (.int .i64 e_6) rfl rfl rfl ?_
      refine g_v2 (t1 := 11) (t2 := 15) (u1 := (.int .i64 v_2)) (u2 := (.int .i64 e_6)) (.bool (v_2 == e_6)) rfl rfl rfl rfl ?_
      refine g_end ?_
      refine e_end ?_
      refine renew [(0, (Enc.enc (s_1 : List Int))), (1, (.int .i64 v_2)), (4, (.int .i64 0)), (5, (.int .i64 t8_4)), (7, (.int .i64 (s_1.length : Int))), (8, (.int .i64 t8_4)), (16, (.bool (v_2 == e_6)))] ⟨h0, h1, h4, h5, h7, h8, rfl⟩ ?_
      rintro s ⟨h0, h1, h4, h5, h7, h8, h16⟩
      refine .nsq ?_
      refine run_cond (t := (v_2 == e_6)) h16 h (fun h => ?_) (fun h => ?_)
      · refine .seq ?_
        refine run_reg ?_
        refine e_end ?_
        refine g_v1 (t := 5) (u := (.int .i64 t8_4)) (.int .i64 t8_4) h5 rfl rfl ?_
        refine g_v1 (t := 17) (u := (.int .i64 t8_4)) (.int .i64 t8_4) rfl rfl rfl ?_
        refine g_end ?_
        refine e_end ?_
        refine renew [(0, (Enc.enc (s_1 : List Int))), (1, (.int .i64 v_2)), (4, (.int .i64 t8_4)), (7, (.int .i64 (s_1.length : Int))), (8, (.int .i64 t8_4))] ⟨h0, h1, rfl, h7, h8⟩ ?_
        rintro s ⟨h0, h1, h4, h7, h8⟩
        refine .nsq ?_
        refine .ret ?_
        have hr := Option.some.inj h
        subst hr
        exact rrA (res_tmp h4) rfl
      · refine .skip ?_
        refine .nbk ?_
        refine .nsq ?_
        refine run_reg ?_
        refine e_end ?_
        refine g_v1 (t := 8) (u := (.int .i64 t8_4)) (.int .i64 (w64 (t8_4 + 1))) h8 rfl rfl ?_
        refine g_v1 (t := 18) (u := (.int .i64 (w64 (t8_4 + 1)))) (.int .i64 (w64 (t8_4 + 1))) rfl rfl rfl ?_
        refine g_end ?_
        refine e_end ?_
        refine renew [(0, (Enc.enc (s_1 : List Int))), (1, (.int .i64 v_2)), (4, (.int .i64 0)), (7, (.int .i64 (s_1.length : Int))), (8, (.int .i64 (w64 (t8_4 + 1))))] ⟨h0, h1, h4, h7, rfl⟩ ?_
        rintro s ⟨h0, h1, h4, h7, h8⟩
        refine .nlp ?_
        exact ih (w64 (t8_4 + 1)) _ ⟨h0, h1, h4, h7, h8⟩ h
    · refine .exit ?_
      refine .esq ?_
      refine .elp ?_
      refine .ebk ?_
      refine .nsq ?_
      refine .seq ?_
      refine run_reg ?_
      refine e_end ?_
      refine g_v0 (.int .i64 (-1)) rfl rfl ?_
      refine g_end ?_
      refine e_end ?_
      refine renew [(4, (.int .i64 (-1)))] rfl ?_
      rintro s h4
      refine .nsq ?_
      refine .ret ?_
      have hr := Option.some.inj h
      subst hr
      exact rrA (res_tmp h4) rfl
def slices_Index (F : Nat) (s_1 : (List Int)) (v_2 : Int) : Option Int :=
  slices_Index_l1 F s_1 v_2 F 0
theorem t118 (H : H118 D σ F) (s_1 : (List Int)) (v_2 : Int) (s : Nat → V) (hs : Facts [(0, (Enc.enc (s_1 : List Int))), (1, (.int .i64 v_2))] s) (h : slices_Index F s_1 v_2 = some r) : Run D σ (R118 r) (.run A118 []) s := by
  unfold slices_Index at h
  obtain ⟨h0, h1⟩ := hs
  refine .seq ?_
  refine run_reg ?_
  refine e_end ?_
  refine g_v0 (.int .i64 0) rfl rfl ?_
  refine g_end ?_
  refine e_end ?_
  refine renew [(0, (Enc.enc (s_1 : List Int))), (1, (.int .i64 v_2)), (4, (.int .i64 0))] ⟨h0, h1, rfl⟩ ?_
  rintro s ⟨h0, h1, h4⟩
  refine .nsq ?_
  refine .seq ?_
  refine .seq ?_
  refine run_reg ?_
  refine e_end ?_
  refine g_v1 (t := 0) (u := (Enc.enc (s_1 : List Int))) (Enc.enc (s_1 : List Int)) h0 rfl rfl ?_
  refine g_v (.int .i64 (s_1.length : Int)) (ev_len (xs := s_1) rfl) ?_
  refine g_v0 (.int .i64 0) rfl rfl ?_
  refine g_end ?_
  refine e_end ?_
  refine renew [(0, (Enc.enc (s_1 : List Int))), (1, (.int .i64 v_2)), (4, (.int .i64 0)), (7, (.int .i64 (s_1.length : Int))), (8, (.int .i64 0))] ⟨h0, h1, h4, rfl, rfl⟩ ?_
  rintro s ⟨h0, h1, h4, h7, h8⟩
  refine .nsq ?_
  refine .block ?_
  refine .loop ?_
  exact t_f118_l1 H s_1 v_2 F 0 _ ⟨h0, h1, h4, h7, h8⟩ h
end
def e118 (F : Nat) : Ent := ⟨118, da (fun (x : ((List Int) × Int × Unit)) => slices_Index F x.1 x.2.1) (fun (r : Int) => (Enc.enc (r : Int))), 0, false, selF []⟩
theorem p118 {F : Nat} {x0 : (List Int)} {x1 : Int} {r : Int} (h : slices_Index F x0 x1 = some r) : (e118 F).den [Enc.enc x0, Enc.enc x1] = some (Enc.enc (r : Int)) := da_put (f := fun (x : ((List Int) × Int × Unit)) => slices_Index F x.1 x.2.1) (t := fun (r : Int) => (Enc.enc (r : Int))) (x0, x1, ()) h
theorem o118 {D : Den} {σ : Sig} {F : Nat} (hF : Fits2 Try.prog D σ) (H : H118 D σ F) : (e118 F).Ok Try.prog := by
  refine ⟨fun args r h => ?_, ⟨Try.f118, Try.func118, rfl, rfl⟩⟩
  obtain ⟨⟨x0, x1, _⟩, y, rfl, hy, rfl⟩ := da_open h
  exact contract_run hF (by kernel_rfl) Try.func118 rfl c118 (show 2 ≤ Try.f118.ntmps by decide) (t118 H x0 x1 _ ⟨rfl, rfl⟩ hy)
/- slices.Contains[[]int,int] -/
def A85_1 : AC := (AC.seq (AC.reg [] [(I.mk (some 5) none false (X.v (A.mov (O.t 0)))), (I.mk (some 6) none false (X.v (A.mov (O.t 1)))), (I.mk (some 7) none false (X.call (O.k (V.fn 118 [] [])) [(O.t 5), (O.t 6)])), (I.mk (some 8) none false (X.v (A.bin BinOp.geq (O.t 7) (O.k (V.int IntKind.i64 (Int.ofNat 0)))))), (I.mk (some 4) none false (X.v (A.mov (O.t 8))))] []) AC.ret)
def A85 : AC := (AC.seq (AC.reg [] [(I.mk (some 4) none false (X.v (A.mov (O.k (V.bool false)))))] []) A85_1)
def an85 : List An := []
theorem c85 : cC Try.prog Try.f85.ntmps an85 (Try.f85.body.getD .skip) = some A85 := by kernel_rfl
structure H85 (D : Den) (σ : Sig) (F : Nat) : Prop where
  c118 : ∀ (x0 : (List Int)) (x1 : Int) r, slices_Index F x0 x1 = some r → D 118 [Enc.enc x0, Enc.enc x1] = some (Enc.enc (r : Int))
  g118 : σ 118 = some (0, false)
abbrev R85 (r : Bool) : (Nat → V) → Prop := RR Try.prog [.tmp 4] 0 false (Enc.enc (r : Bool))
section
variable {D : Den} {σ : Sig} {F : Nat} {r : Bool}
def slices_Contains (F : Nat) (s_1 : (List Int)) (v_2 : Int) : Option Bool :=
  (slices_Index F s_1 v_2).bind fun r_3 =>
  some (decide (r_3 ≥ 0))
theorem t85 (H : H85 D σ F) (s_1 : (List Int)) (v_2 : Int) (s : Nat → V) (hs : Facts [(0, (Enc.enc (s_1 : List Int))), (1, (.int .i64 v_2))] s) (h : slices_Contains F s_1 v_2 = some r) : Run D σ (R85 r) (.run A85 []) s := by
  unfold slices_Contains at h
  obtain ⟨h0, h1⟩ := hs
  refine .seq ?_
  refine run_reg ?_
  refine e_end ?_
  refine g_v0 (.bool false) rfl rfl ?_
  refine g_end ?_
  refine e_end ?_
  refine renew [(0, (Enc.enc (s_1 : List Int))), (1, (.int .i64 v_2)), (4, (.bool false))] ⟨h0, h1, rfl⟩ ?_
  rintro s ⟨h0, h1, h4⟩
  refine .nsq ?_
  refine .seq ?_
  refine run_reg ?_
  refine e_end ?_
  refine g_v1 (t := 0) (u := (Enc.enc (s_1 : List Int))) (Enc.enc (s_1 : List Int)) h0 rfl rfl ?_
  refine g_v1 (t := 1) (u := (.int .i64 v_2)) (.int .i64 v_2) h1 rfl rfl ?_
  obtain ⟨r_3, E_r_3, h⟩ := bind_some h
  refine g_call (m := 0) (al := false) (r := (Enc.enc (r_3 : Int))) [Enc.enc (s_1 : (List Int)), Enc.enc (v_2 : Int)] (ta_cons (v := (Enc.enc (s_1 : List Int))) rfl rfl (Enc.erase_enc (s_1 : (List Int))) (ta_cons (v := (.int .i64 v_2)) rfl rfl rfl ta_nil)) (H.c118 _ _ _ E_r_3) H.g118 rfl rfl rfl rfl ?_
  refine g_v1 (t := 7) (u := (.int .i64 r_3)) (.bool (decide (r_3 ≥ 0))) rfl rfl rfl ?_
  refine g_v1 (t := 8) (u := (.bool (decide (r_3 ≥ 0)))) (.bool (decide (r_3 ≥ 0))) rfl rfl rfl ?_
  refine g_end ?_
  refine e_end ?_
  refine renew [(4, (.bool (decide (r_3 ≥ 0))))] rfl ?_
  rintro s h4
  refine .nsq ?_
  refine .ret ?_
  have hr := Option.some.inj h
  subst hr
  exact rrA (res_tmp h4) rfl
end
def e85 (F : Nat) : Ent := ⟨85, da (fun (x : ((List Int) × Int × Unit)) => slices_Contains F x.1 x.2.1) (fun (r : Bool) => (Enc.enc (r : Bool))), 0, false, selF []⟩
theorem p85 {F : Nat} {x0 : (List Int)} {x1 : Int} {r : Bool} (h : slices_Contains F x0 x1 = some r) : (e85 F).den [Enc.enc x0, Enc.enc x1] = some (Enc.enc (r : Bool)) := da_put (f := fun (x : ((List Int) × Int × Unit)) => slices_Contains F x.1 x.2.1) (t := fun (r : Bool) => (Enc.enc (r : Bool))) (x0, x1, ()) h
theorem o85 {D : Den} {σ : Sig} {F : Nat} (hF : Fits2 Try.prog D σ) (H : H85 D σ F) : (e85 F).Ok Try.prog := by
  refine ⟨fun args r h => ?_, ⟨Try.f85, Try.func85, rfl, rfl⟩⟩
  obtain ⟨⟨x0, x1, _⟩, y, rfl, hy, rfl⟩ := da_open h
  exact contract_run hF (by kernel_rfl) Try.func85 rfl c85 (show 2 ≤ Try.f85.ntmps by decide) (t85 H x0 x1 _ ⟨rfl, rfl⟩ hy)
/- loop.example/g01109/impl.isPathDecomposition$2$1 -/
def A88_1 : AC := (AC.seq (AC.reg [] [(I.mk (some 4) none false (X.v (A.mov (O.t 0)))), (I.mk (some 5) none false (X.v (A.idxA (O.t 1) (O.k (V.int IntKind.i64 (Int.ofNat 0))) 2 1))), (I.mk (some 6) none false (X.v (A.load Sh.s (O.t 5)))), (I.mk (some 7) none false (X.call (O.k (V.fn 85 [] [])) [(O.t 4), (O.t 6)])), (I.mk (some 8) none false (X.v (A.mov (O.t 7)))), (I.mk (some 9) (some (8, true)) false (X.v (A.mov (O.t 0)))), (I.mk (some 10) (some (8, true)) false (X.v (A.idxA (O.t 1) (O.k (V.int IntKind.i64 (Int.ofNat 1))) 2 1))), (I.mk (some 11) (some (8, true)) false (X.v (A.load Sh.s (O.t 10)))), (I.mk (some 12) (some (8, true)) false (X.call (O.k (V.fn 85 [] [])) [(O.t 9), (O.t 11)])), (I.mk (some 13) none false (X.v (A.pick (O.t 8) (O.t 12) (O.k (V.bool false))))), (I.mk (some 3) none false (X.v (A.mov (O.t 13))))] []) AC.ret)
def A88 : AC := (AC.seq (AC.reg [] [(I.mk (some 3) none false (X.v (A.mov (O.k (V.bool false)))))] []) A88_1)
def an88 : List An := []
theorem c88 : cC Try.prog Try.f88.ntmps an88 (Try.f88.body.getD .skip) = some A88 := by kernel_rfl
structure H88 (D : Den) (σ : Sig) (F : Nat) : Prop where
  c85 : ∀ (x0 : (List Int)) (x1 : Int) r, slices_Contains F x0 x1 = some r → D 85 [Enc.enc x0, Enc.enc x1] = some (Enc.enc (r : Bool))
  g85 : σ 85 = some (0, false)
abbrev R88 (r : Bool) : (Nat → V) → Prop := RR Try.prog [.tmp 3] 0 false (Enc.enc (r : Bool))
section
variable {D : Den} {σ : Sig} {F : Nat} {r : Bool}
def i_isPathDecomposition_2_1 (F : Nat) (bag_1 : (List Int)) (rf_2 : (Rf (Int × Int))) : Option Bool :=
  (slices_Contains F bag_1 rf_2.v.1).bind fun r_3 =>
  bif r_3 then
    (slices_Contains F bag_1 rf_2.v.2).bind fun r_4 =>
    some r_4
  else
    some false
theorem t88 (H : H88 D σ F) (bag_1 : (List Int)) (rf_2 : (Rf (Int × Int))) (s : Nat → V) (hs : Facts [(0, (Enc.enc (bag_1 : List Int))), (1, (.ref .sh 0 [] (.agg [(.int .i64 rf_2.v.1), (.int .i64 rf_2.v.2)])))] s) (h : i_isPathDecomposition_2_1 F bag_1 rf_2 = some r) : Run D σ (R88 r) (.run A88 []) s := by
  unfold i_isPathDecomposition_2_1 at h
  obtain ⟨h0, h1⟩ := hs
  refine .seq ?_
  refine run_reg ?_
  refine e_end ?_
  refine g_v0 (.bool false) rfl rfl ?_
  refine g_end ?_
  refine e_end ?_
  refine renew [(0, (Enc.enc (bag_1 : List Int))), (1, (.ref .sh 0 [] (.agg [(.int .i64 rf_2.v.1), (.int .i64 rf_2.v.2)]))), (3, (.bool false))] ⟨h0, h1, rfl⟩ ?_
  rintro s ⟨h0, h1, h3⟩
  refine .nsq ?_
  refine .seq ?_
  refine run_reg ?_
  refine e_end ?_
  refine g_v1 (t := 0) (u := (Enc.enc (bag_1 : List Int))) (Enc.enc (bag_1 : List Int)) h0 rfl rfl ?_
  refine g_v1 (t := 1) (u := (.ref .sh 0 [] (.agg [(.int .i64 rf_2.v.1), (.int .i64 rf_2.v.2)]))) (.ref .sh 0 [0] (.int .i64 rf_2.v.1)) h1 rfl rfl ?_
  refine g_v1 (t := 5) (u := (.ref .sh 0 [0] (.int .i64 rf_2.v.1))) (.int .i64 rf_2.v.1) rfl rfl rfl ?_
  obtain ⟨r_3, E_r_3, h⟩ := bind_some h
  refine g_call (m := 0) (al := false) (r := (Enc.enc (r_3 : Bool))) [Enc.enc (bag_1 : (List Int)), Enc.enc (rf_2.v.1 : Int)] (ta_cons (v := (Enc.enc (bag_1 : List Int))) rfl rfl (Enc.erase_enc (bag_1 : (List Int))) (ta_cons (v := (.int .i64 rf_2.v.1)) rfl rfl rfl ta_nil)) (H.c85 _ _ _ E_r_3) H.g85 rfl rfl rfl rfl ?_
  refine g_v1 (t := 7) (u := (.bool r_3)) (.bool r_3) rfl rfl rfl ?_
  refine split_on (c := r_3) h (fun hg5 h => ?_) (fun hg5 h => ?_)
  · refine g_yes (Eq.trans (b := .bool r_3) rfl (congrArg V.bool hg5)) (g_v1 (t := 0) (u := (Enc.enc (bag_1 : List Int))) (Enc.enc (bag_1 : List Int)) h0 rfl rfl ?_)
    refine g_yes (Eq.trans (b := .bool r_3) rfl (congrArg V.bool hg5)) (g_v1 (t := 1) (u := (.ref .sh 0 [] (.agg [(.int .i64 rf_2.v.1), (.int .i64 rf_2.v.2)]))) (.ref .sh 0 [1] (.int .i64 rf_2.v.2)) h1 rfl rfl ?_)
    refine g_yes (Eq.trans (b := .bool r_3) rfl (congrArg V.bool hg5)) (g_v1 (t := 10) (u := (.ref .sh 0 [1] (.int .i64 rf_2.v.2))) (.int .i64 rf_2.v.2) rfl rfl rfl ?_)
    obtain ⟨r_4, E_r_4, h⟩ := bind_some h
    refine g_yes (Eq.trans (b := .bool r_3) rfl (congrArg V.bool hg5)) (g_call (m := 0) (al := false) (r := (Enc.enc (r_4 : Bool))) [Enc.enc (bag_1 : (List Int)), Enc.enc (rf_2.v.2 : Int)] (ta_cons (v := (Enc.enc (bag_1 : List Int))) rfl rfl (Enc.erase_enc (bag_1 : (List Int))) (ta_cons (v := (.int .i64 rf_2.v.2)) rfl rfl rfl ta_nil)) (H.c85 _ _ _ E_r_4) H.g85 rfl rfl rfl rfl ?_)
    refine g_v2 (t1 := 8) (t2 := 12) (u1 := (.bool true)) (u2 := (.bool r_4)) (.bool r_4) (Eq.trans (b := .bool r_3) rfl (congrArg V.bool hg5)) rfl rfl rfl ?_
    refine g_v1 (t := 13) (u := (.bool r_4)) (.bool r_4) rfl rfl rfl ?_
    refine g_end ?_
    refine e_end ?_
    refine renew [(3, (.bool r_4))] rfl ?_
    rintro s h3
    refine .nsq ?_
    refine .ret ?_
    have hr := Option.some.inj h
    subst hr
    exact rrA (res_tmp h3) rfl
  · refine g_no (Eq.trans (b := .bool r_3) rfl (congrArg V.bool hg5)) ?_
    refine g_no (Eq.trans (b := .bool r_3) rfl (congrArg V.bool hg5)) ?_
    refine g_no (Eq.trans (b := .bool r_3) rfl (congrArg V.bool hg5)) ?_
    refine g_no (Eq.trans (b := .bool r_3) rfl (congrArg V.bool hg5)) ?_
    refine g_v2 (t1 := 8) (t2 := 12) (u1 := (.bool false)) (u2 := (.tup [])) (.bool false) (Eq.trans (b := .bool r_3) rfl (congrArg V.bool hg5)) rfl rfl rfl ?_
    refine g_v1 (t := 13) (u := (.bool false)) (.bool false) rfl rfl rfl ?_
    refine g_end ?_
    refine e_end ?_
    refine renew [(3, (.bool false))] rfl ?_
    rintro s h3
    refine .nsq ?_
    refine .ret ?_
    have hr := Option.some.inj h
    subst hr
    exact rrA (res_tmp h3) rfl
end
def e88 (F : Nat) : Ent := ⟨88, da (fun (x : ((List Int) × (Rf (Int × Int)) × Unit)) => i_isPathDecomposition_2_1 F x.1 x.2.1) (fun (r : Bool) => (Enc.enc (r : Bool))), 0, false, selF []⟩
theorem p88 {F : Nat} {x0 : (List Int)} {x1 : (Rf (Int × Int))} {r : Bool} (h : i_isPathDecomposition_2_1 F x0 x1 = some r) : (e88 F).den [Enc.enc x0, Arg.arg x1] = some (Enc.enc (r : Bool)) := da_put (f := fun (x : ((List Int) × (Rf (Int × Int)) × Unit)) => i_isPathDecomposition_2_1 F x.1 x.2.1) (t := fun (r : Bool) => (Enc.enc (r : Bool))) (x0, x1, ()) h
theorem o88 {D : Den} {σ : Sig} {F : Nat} (hF : Fits2 Try.prog D σ) (H : H88 D σ F) : (e88 F).Ok Try.prog := by
  refine ⟨fun args r h => ?_, ⟨Try.f88, Try.func88, rfl, rfl⟩⟩
  obtain ⟨⟨x0, x1, _⟩, y, rfl, hy, rfl⟩ := da_open h
  exact contract_run hF (by kernel_rfl) Try.func88 rfl c88 (show 2 ≤ Try.f88.ntmps by decide) (t88 H x0 x1 _ ⟨rfl, rfl⟩ hy)
/- slices.IndexFunc[[][]int,[]int] -/
def A115s2_5 : AC := (AC.cond (O.t 16) (AC.seq (AC.reg [] [(I.mk (some 17) none false (X.v (A.mov (O.t 5)))), (I.mk (some 4) none false (X.v (A.mov (O.t 17))))] []) AC.ret) AC.skip)
def A115s2_4 : AC := (AC.seq (AC.reg [] [(I.mk (some 11) none false (X.v (A.mov (O.t 1)))), (I.mk (some 12) none false (X.v (A.mov (O.t 0)))), (I.mk (some 13) none false (X.v (A.mov (O.t 5)))), (I.mk (some 14) none false (X.v (A.idx (O.t 12) (O.t 13) 1))), (I.mk (some 15) none false (X.v (A.load Sh.p (O.t 14)))), (I.mk (some 16) none false (X.call (O.t 11) [(O.t 15)]))] []) A115s2_5)
def A115s2_6 : AC := (AC.reg [] [(I.mk (some 18) none false (X.v (A.bin BinOp.add (O.t 8) (O.k (V.int IntKind.i64 (Int.ofNat 1)))))), (I.mk (some 8) none false (X.v (A.mov (O.t 18))))] [])
def A115s2_3 : AC := (AC.seq (AC.block 1 (AC.seq (AC.reg [] [(I.mk (some 10) none false (X.v (A.mov (O.t 8)))), (I.mk (some 5) none false (X.v (A.mov (O.t 10))))] []) A115s2_4)) A115s2_6)
def A115s2_2 : AC := (AC.seq (AC.cond (O.t 9) AC.skip (AC.exit 0)) A115s2_3)
def A115s2_1 : AC := (AC.seq (AC.reg [] [(I.mk (some 9) none false (X.v (A.bin BinOp.lss (O.t 8) (O.t 7))))] []) A115s2_2)
def A115s2_7 : AC := (AC.seq (AC.reg [] [(I.mk (some 4) none false (X.v (A.mov (O.k (V.int IntKind.i64 (Int.negSucc 0))))))] []) AC.ret)
def A115s2_9 : AC := (AC.block 0 (AC.loop A115s2_1))
def A115s2_8 : AC := (AC.seq (AC.seq (AC.reg [] [(I.mk (some 6) none false (X.v (A.mov (O.t 0)))), (I.mk (some 7) none false (X.v (A.len (O.t 6)))), (I.mk (some 8) none false (X.v (A.mov (O.k (V.int IntKind.i64 (Int.ofNat 0))))))] []) A115s2_9) A115s2_7)
def A115s2 : AC := (AC.seq (AC.reg [] [(I.mk (some 4) none false (X.v (A.mov (O.k (V.int IntKind.i64 (Int.ofNat 0))))))] []) A115s2_8)
def an115s2 : List An := []
theorem c115s2 : cC Try.prog Try.f115.ntmps an115s2 (Try.f115.body.getD .skip) = some A115s2 := by kernel_rfl
structure H115s2 (D : Den) (σ : Sig) (F : Nat) : Prop where
  c88 : ∀ (x0 : (List Int)) (x1 : (Rf (Int × Int))) r, i_isPathDecomposition_2_1 F x0 x1 = some r → D 88 [Enc.enc x0, Arg.arg x1] = some (Enc.enc (r : Bool))
  g88 : σ 88 = some (0, false)
abbrev R115s2 (r : Int) : (Nat → V) → Prop := RR Try.prog [.tmp 4] 0 false (Enc.enc (r : Int))
section
variable {D : Den} {σ : Sig} {F : Nat} {r : Int}
def slices_IndexFunc_int_int_of_i_isPathDecomposition_2_1_l1 (F : Nat) (s_1 : (List (List Int))) (f_2 : (Cl 88 Unit ((Rf (Int × Int)) × Unit)))  : Nat → Int → Option Int
  | 0, _ => none
  | k + 1, t8_5 =>
    bif decide (t8_5 < (s_1.length : Int)) then
      (idx s_1 t8_5).bind fun e_8 =>
      (i_isPathDecomposition_2_1 F e_8 f_2.env.1).bind fun r_9 =>
      bif r_9 then
        some t8_5
      else
        (slices_IndexFunc_int_int_of_i_isPathDecomposition_2_1_l1 F s_1 f_2 k) (w64 (t8_5 + 1))
    else
      some (-1)
theorem t_f115s2_l1 (H : H115s2 D σ F) (s_1 : (List (List Int))) (f_2 : (Cl 88 Unit ((Rf (Int × Int)) × Unit)))  : ∀ (k : Nat) (t8_5 : Int) (s : Nat → V), Facts [(0, (Enc.enc (s_1 : List (List Int)))), (1, (.fn 88 [] [(.ref .sh 0 [] (.agg [(.int .i64 f_2.env.1.v.1), (.int .i64 f_2.env.1.v.2)]))])), (4, (.int .i64 0)), (7, (.int .i64 (s_1.length : Int))), (8, (.int .i64 t8_5))] s → slices_IndexFunc_int_int_of_i_isPathDecomposition_2_1_l1 F s_1 f_2 k t8_5 = some r → Run D σ (R115s2 r) (.run A115s2_1 [.lp A115s2_1, .bk 0, .sq A115s2_7]) s := by
  intro k
  induction k with
  | zero => intro t8_5 s _ h; exact nomatch (h : (none : Option _) = some r)
  | succ k ih =>
    intro t8_5 s hs h
    rw [slices_IndexFunc_int_int_of_i_isPathDecomposition_2_1_l1] at h
    obtain ⟨h0, h1, h4, h7, h8⟩ := hs
    refine .seq ?_
    refine run_reg ?_
    refine e_end ?_
    refine g_v2 (t1 := 8) (t2 := 7) (u1 := (.int .i64 t8_5)) (u2 := (.int .i64 (s_1.length : Int))) (.bool (decide (t8_5 < (s_1.length : Int)))) h8 h7 rfl rfl ?_
    refine g_end ?_
    refine e_end ?_
    refine renew [(0, (Enc.enc (s_1 : List (List Int)))), (1, (.fn 88 [] [(.ref .sh 0 [] (.agg [(.int .i64 f_2.env.1.v.1), (.int .i64 f_2.env.1.v.2)]))])), (4, (.int .i64 0)), (7, (.int .i64 (s_1.length : Int))), (8, (.int .i64 t8_5)), (9, (.bool (decide (t8_5 < (s_1.length : Int)))))] ⟨h0, h1, h4, h7, h8, rfl⟩ ?_
    rintro s ⟨h0, h1, h4, h7, h8, h9⟩
    refine .nsq ?_
    refine .seq ?_
    refine run_cond (t := decide (t8_5 < (s_1.length : Int))) h9 h (fun h => ?_) (fun h => ?_)
    · refine .skip ?_
      refine .nsq ?_
      refine .seq ?_
      refine .block ?_
      refine .seq ?_
      refine run_reg ?_
      refine e_end ?_
      refine g_v1 (t := 8) (u := (.int .i64 t8_5)) (.int .i64 t8_5) h8 rfl rfl ?_
      refine g_v1 (t := 10) (u := (.int .i64 t8_5)) (.int .i64 t8_5) rfl rfl rfl ?_
      refine g_end ?_
      refine e_end ?_
      refine renew [(0, (Enc.enc (s_1 : List (List Int)))), (1, (.fn 88 [] [(.ref .sh 0 [] (.agg [(.int .i64 f_2.env.1.v.1), (.int .i64 f_2.env.1.v.2)]))])), (4, (.int .i64 0)), (5, (.int .i64 t8_5)), (7, (.int .i64 (s_1.length : Int))), (8, (.int .i64 t8_5))] ⟨h0, h1, h4, rfl, h7, h8⟩ ?_
      rintro s ⟨h0, h1, h4, h5, h7, h8⟩
      refine .nsq ?_
      refine .seq ?_
      refine run_reg ?_
      refine e_end ?_
      refine g_v1 (t := 1) (u := (.fn 88 [] [(.ref .sh 0 [] (.agg [(.int .i64 f_2.env.1.v.1), (.int .i64 f_2.env.1.v.2)]))])) (.fn 88 [] [(.ref .sh 0 [] (.agg [(.int .i64 f_2.env.1.v.1), (.int .i64 f_2.env.1.v.2)]))]) h1 rfl rfl ?_
      refine g_v1 (t := 0) (u := (Enc.enc (s_1 : List (List Int)))) (Enc.enc (s_1 : List (List Int))) h0 rfl rfl ?_
      refine g_v1 (t := 5) (u := (.int .i64 t8_5)) (.int .i64 t8_5) h5 rfl rfl ?_
      obtain ⟨e_8, E_e_8, h⟩ := bind_some h
      refine g_v (.ref .sh 0 [] (Enc.enc (e_8 : List Int))) (ev_idx (t := .sh) (lo := 0) (xs := s_1) rfl rfl E_e_8 rfl rfl) ?_
      refine g_v1 (t := 14) (u := (.ref .sh 0 [] (Enc.enc (e_8 : List Int)))) (Enc.enc (e_8 : List Int)) rfl rfl rfl ?_
      obtain ⟨r_9, E_r_9, h⟩ := bind_some h
      refine g_callF (m := 0) (al := false) (r := (Enc.enc (r_9 : Bool))) (fs := []) (env := [(.ref .sh 0 [] (.agg [(.int .i64 f_2.env.1.v.1), (.int .i64 f_2.env.1.v.2)]))]) (us := []) (ws := [Arg.arg (f_2.env.1 : (Rf (Int × Int)))]) rfl erases_nil (erases_cons (erase_ref (Enc.erase_enc (f_2.env.1.v : (Int × Int)))) erases_nil) rfl [Enc.enc (e_8 : (List Int))] (ta_cons (v := (Enc.enc (e_8 : List Int))) rfl rfl (Enc.erase_enc (e_8 : (List Int))) ta_nil) (H.c88 _ _ _ E_r_9) H.g88 rfl rfl rfl rfl ?_
      refine g_end ?_
      refine e_end ?_
      refine renew [(0, (Enc.enc (s_1 : List (List Int)))), (1, (.fn 88 [] [(.ref .sh 0 [] (.agg [(.int .i64 f_2.env.1.v.1), (.int .i64 f_2.env.1.v.2)]))])), (4, (.int .i64 0)), (5, (.int .i64 t8_5)), (7, (.int .i64 (s_1.length : Int))), (8, (.int .i64 t8_5)), (16, (.bool r_9))] ⟨h0, h1, h4, h5, h7, h8, rfl⟩ ?_
      rintro s ⟨h0, h1, h4, h5, h7, h8, h16⟩
      refine .nsq ?_
      refine run_cond (t := r_9) h16 h (fun h => ?_) (fun h => ?_)
      · refine .seq ?_
        refine run_reg ?_
        refine e_end ?_
        refine g_v1 (t := 5) (u := (.int .i64 t8_5)) (.int .i64 t8_5) h5 rfl rfl ?_
        refine g_v1 (t := 17) (u := (.int .i64 t8_5)) (.int .i64 t8_5) rfl rfl rfl ?_
        refine g_end ?_
        refine e_end ?_
        refine renew [(0, (Enc.enc (s_1 : List (List Int)))), (1, (.fn 88 [] [(.ref .sh 0 [] (.agg [(.int .i64 f_2.env.1.v.1), (.int .i64 f_2.env.1.v.2)]))])), (4, (.int .i64 t8_5)), (7, (.int .i64 (s_1.length : Int))), (8, (.int .i64 t8_5))] ⟨h0, h1, rfl, h7, h8⟩ ?_
        rintro s ⟨h0, h1, h4, h7, h8⟩
        refine .nsq ?_
        refine .ret ?_
        have hr := Option.some.inj h
        subst hr
        exact rrA (res_tmp h4) rfl
      · refine .skip ?_
        refine .nbk ?_
        refine .nsq ?_
        refine run_reg ?_
        refine e_end ?_
        refine g_v1 (t := 8) (u := (.int .i64 t8_5)) (.int .i64 (w64 (t8_5 + 1))) h8 rfl rfl ?_
        refine g_v1 (t := 18) (u := (.int .i64 (w64 (t8_5 + 1)))) (.int .i64 (w64 (t8_5 + 1))) rfl rfl rfl ?_
        refine g_end ?_
        refine e_end ?_
        refine renew [(0, (Enc.enc (s_1 : List (List Int)))), (1, (.fn 88 [] [(.ref .sh 0 [] (.agg [(.int .i64 f_2.env.1.v.1), (.int .i64 f_2.env.1.v.2)]))])), (4, (.int .i64 0)), (7, (.int .i64 (s_1.length : Int))), (8, (.int .i64 (w64 (t8_5 + 1))))] ⟨h0, h1, h4, h7, rfl⟩ ?_
        rintro s ⟨h0, h1, h4, h7, h8⟩
        refine .nlp ?_
        exact ih (w64 (t8_5 + 1)) _ ⟨h0, h1, h4, h7, h8⟩ h
    · refine .exit ?_
      refine .esq ?_
      refine .elp ?_
      refine .ebk ?_
      refine .nsq ?_
      refine .seq ?_
      refine run_reg ?_
      refine e_end ?_
      refine g_v0 (.int .i64 (-1)) rfl rfl ?_
      refine g_end ?_
      refine e_end ?_
      refine renew [(4, (.int .i64 (-1)))] rfl ?_
      rintro s h4
      refine .nsq ?_
      refine .ret ?_
      have hr := Option.some.inj h
      subst hr
      exact rrA (res_tmp h4) rfl
def slices_IndexFunc_int_int_of_i_isPathDecomposition_2_1 (F : Nat) (s_1 : (List (List Int))) (f_2 : (Cl 88 Unit ((Rf (Int × Int)) × Unit))) : Option Int :=
  slices_IndexFunc_int_int_of_i_isPathDecomposition_2_1_l1 F s_1 f_2 F 0
theorem t115s2 (H : H115s2 D σ F) (s_1 : (List (List Int))) (f_2 : (Cl 88 Unit ((Rf (Int × Int)) × Unit))) (s : Nat → V) (hs : Facts [(0, (Enc.enc (s_1 : List (List Int)))), (1, (.fn 88 [] [(.ref .sh 0 [] (.agg [(.int .i64 f_2.env.1.v.1), (.int .i64 f_2.env.1.v.2)]))]))] s) (h : slices_IndexFunc_int_int_of_i_isPathDecomposition_2_1 F s_1 f_2 = some r) : Run D σ (R115s2 r) (.run A115s2 []) s := by
  unfold slices_IndexFunc_int_int_of_i_isPathDecomposition_2_1 at h
  obtain ⟨h0, h1⟩ := hs
  refine .seq ?_
  refine run_reg ?_
  refine e_end ?_
  refine g_v0 (.int .i64 0) rfl rfl ?_
  refine g_end ?_
  refine e_end ?_
  refine renew [(0, (Enc.enc (s_1 : List (List Int)))), (1, (.fn 88 [] [(.ref .sh 0 [] (.agg [(.int .i64 f_2.env.1.v.1), (.int .i64 f_2.env.1.v.2)]))])), (4, (.int .i64 0))] ⟨h0, h1, rfl⟩ ?_
  rintro s ⟨h0, h1, h4⟩
  refine .nsq ?_
  refine .seq ?_
  refine .seq ?_
  refine run_reg ?_
  refine e_end ?_
  refine g_v1 (t := 0) (u := (Enc.enc (s_1 : List (List Int)))) (Enc.enc (s_1 : List (List Int))) h0 rfl rfl ?_
  refine g_v (.int .i64 (s_1.length : Int)) (ev_len (xs := s_1) rfl) ?_
  refine g_v0 (.int .i64 0) rfl rfl ?_
  refine g_end ?_
  refine e_end ?_
  refine renew [(0, (Enc.enc (s_1 : List (List Int)))), (1, (.fn 88 [] [(.ref .sh 0 [] (.agg [(.int .i64 f_2.env.1.v.1), (.int .i64 f_2.env.1.v.2)]))])), (4, (.int .i64 0)), (7, (.int .i64 (s_1.length : Int))), (8, (.int .i64 0))] ⟨h0, h1, h4, rfl, rfl⟩ ?_
  rintro s ⟨h0, h1, h4, h7, h8⟩
  refine .nsq ?_
  refine .block ?_
  refine .loop ?_
  exact t_f115s2_l1 H s_1 f_2 F 0 _ ⟨h0, h1, h4, h7, h8⟩ h
end
def e115s2 (F : Nat) : Ent := ⟨115, da (fun (x : ((List (List Int)) × (Cl 88 Unit ((Rf (Int × Int)) × Unit)) × Unit)) => slices_IndexFunc_int_int_of_i_isPathDecomposition_2_1 F x.1 x.2.1) (fun (r : Int) => (Enc.enc (r : Int))), 0, false, selF [(1, 88)]⟩
theorem p115s2 {F : Nat} {x0 : (List (List Int))} {x1 : (Cl 88 Unit ((Rf (Int × Int)) × Unit))} {r : Int} (h : slices_IndexFunc_int_int_of_i_isPathDecomposition_2_1 F x0 x1 = some r) : (e115s2 F).den [Enc.enc x0, Arg.arg x1] = some (Enc.enc (r : Int)) := da_put (f := fun (x : ((List (List Int)) × (Cl 88 Unit ((Rf (Int × Int)) × Unit)) × Unit)) => slices_IndexFunc_int_int_of_i_isPathDecomposition_2_1 F x.1 x.2.1) (t := fun (r : Int) => (Enc.enc (r : Int))) (x0, x1, ()) h
theorem o115s2 {D : Den} {σ : Sig} {F : Nat} (hF : Fits2 Try.prog D σ) (H : H115s2 D σ F) : (e115s2 F).Ok Try.prog := by
  refine ⟨fun args r h => ?_, ⟨Try.f115, Try.func115, rfl, rfl⟩⟩
  obtain ⟨⟨x0, x1, _⟩, y, rfl, hy, rfl⟩ := da_open h
  exact contract_run hF (by kernel_rfl) Try.func115 rfl c115s2 (show 2 ≤ Try.f115.ntmps by decide) (t115s2 H x0 x1 _ ⟨rfl, rfl⟩ hy)
/- slices.ContainsFunc[[][]int,[]int] -/
def A82s2_1 : AC := (AC.seq (AC.reg [] [(I.mk (some 5) none false (X.v (A.mov (O.t 0)))), (I.mk (some 6) none false (X.v (A.mov (O.t 1)))), (I.mk (some 7) none false (X.call (O.k (V.fn 115 [] [])) [(O.t 5), (O.t 6)])), (I.mk (some 8) none false (X.v (A.bin BinOp.geq (O.t 7) (O.k (V.int IntKind.i64 (Int.ofNat 0)))))), (I.mk (some 4) none false (X.v (A.mov (O.t 8))))] []) AC.ret)
def A82s2 : AC := (AC.seq (AC.reg [] [(I.mk (some 4) none false (X.v (A.mov (O.k (V.bool false)))))] []) A82s2_1)
def an82s2 : List An := []
theorem c82s2 : cC Try.prog Try.f82.ntmps an82s2 (Try.f82.body.getD .skip) = some A82s2 := by kernel_rfl
structure H82s2 (D : Den) (σ : Sig) (F : Nat) : Prop where
  c115s2 : ∀ (x0 : (List (List Int))) (x1 : (Cl 88 Unit ((Rf (Int × Int)) × Unit))) r, slices_IndexFunc_int_int_of_i_isPathDecomposition_2_1 F x0 x1 = some r → D 115 [Enc.enc x0, Arg.arg x1] = some (Enc.enc (r : Int))
  g115s2 : σ 115 = some (0, false)
abbrev R82s2 (r : Bool) : (Nat → V) → Prop := RR Try.prog [.tmp 4] 0 false (Enc.enc (r : Bool))
section
variable {D : Den} {σ : Sig} {F : Nat} {r : Bool}
def slices_ContainsFunc_int_int_of_i_isPathDecomposition_2_1 (F : Nat) (s_1 : (List (List Int))) (f_2 : (Cl 88 Unit ((Rf (Int × Int)) × Unit))) : Option Bool :=
  (slices_IndexFunc_int_int_of_i_isPathDecomposition_2_1 F s_1 f_2).bind fun r_3 =>
  some (decide (r_3 ≥ 0))
theorem t82s2 (H : H82s2 D σ F) (s_1 : (List (List Int))) (f_2 : (Cl 88 Unit ((Rf (Int × Int)) × Unit))) (s : Nat → V) (hs : Facts [(0, (Enc.enc (s_1 : List (List Int)))), (1, (.fn 88 [] [(.ref .sh 0 [] (.agg [(.int .i64 f_2.env.1.v.1), (.int .i64 f_2.env.1.v.2)]))]))] s) (h : slices_ContainsFunc_int_int_of_i_isPathDecomposition_2_1 F s_1 f_2 = some r) : Run D σ (R82s2 r) (.run A82s2 []) s := by
  unfold slices_ContainsFunc_int_int_of_i_isPathDecomposition_2_1 at h
  obtain ⟨h0, h1⟩ := hs
  refine .seq ?_
  refine run_reg ?_
  refine e_end ?_
  refine g_v0 (.bool false) rfl rfl ?_
  refine g_end ?_
  refine e_end ?_
  refine renew [(0, (Enc.enc (s_1 : List (List Int)))), (1, (.fn 88 [] [(.ref .sh 0 [] (.agg [(.int .i64 f_2.env.1.v.1), (.int .i64 f_2.env.1.v.2)]))])), (4, (.bool false))] ⟨h0, h1, rfl⟩ ?_
  rintro s ⟨h0, h1, h4⟩
  refine .nsq ?_
  refine .seq ?_
  refine run_reg ?_
  refine e_end ?_
  refine g_v1 (t := 0) (u := (Enc.enc (s_1 : List (List Int)))) (Enc.enc (s_1 : List (List Int))) h0 rfl rfl ?_
  refine g_v1 (t := 1) (u := (.fn 88 [] [(.ref .sh 0 [] (.agg [(.int .i64 f_2.env.1.v.1), (.int .i64 f_2.env.1.v.2)]))])) (.fn 88 [] [(.ref .sh 0 [] (.agg [(.int .i64 f_2.env.1.v.1), (.int .i64 f_2.env.1.v.2)]))]) h1 rfl rfl ?_
  obtain ⟨r_3, E_r_3, h⟩ := bind_some h
  refine g_call (m := 0) (al := false) (r := (Enc.enc (r_3 : Int))) [Enc.enc (s_1 : (List (List Int))), Arg.arg (f_2 : (Cl 88 Unit ((Rf (Int × Int)) × Unit)))] (ta_cons (v := (Enc.enc (s_1 : List (List Int)))) rfl rfl (Enc.erase_enc (s_1 : (List (List Int)))) (ta_cons (v := (.fn 88 [] [(.ref .sh 0 [] (.agg [(.int .i64 f_2.env.1.v.1), (.int .i64 f_2.env.1.v.2)]))])) rfl rfl (erase_fn erases_nil (erases_cons (erase_ref (Enc.erase_enc (f_2.env.1.v : (Int × Int)))) erases_nil)) ta_nil)) (H.c115s2 _ _ _ E_r_3) H.g115s2 rfl rfl rfl rfl ?_
  refine g_v1 (t := 7) (u := (.int .i64 r_3)) (.bool (decide (r_3 ≥ 0))) rfl rfl rfl ?_
  refine g_v1 (t := 8) (u := (.bool (decide (r_3 ≥ 0)))) (.bool (decide (r_3 ≥ 0))) rfl rfl rfl ?_
  refine g_end ?_
  refine e_end ?_
  refine renew [(4, (.bool (decide (r_3 ≥ 0))))] rfl ?_
  rintro s h4
  refine .nsq ?_
  refine .ret ?_
  have hr := Option.some.inj h
  subst hr
  exact rrA (res_tmp h4) rfl
end
def e82s2 (F : Nat) : Ent := ⟨82, da (fun (x : ((List (List Int)) × (Cl 88 Unit ((Rf (Int × Int)) × Unit)) × Unit)) => slices_ContainsFunc_int_int_of_i_isPathDecomposition_2_1 F x.1 x.2.1) (fun (r : Bool) => (Enc.enc (r : Bool))), 0, false, selF [(1, 88)]⟩
theorem p82s2 {F : Nat} {x0 : (List (List Int))} {x1 : (Cl 88 Unit ((Rf (Int × Int)) × Unit))} {r : Bool} (h : slices_ContainsFunc_int_int_of_i_isPathDecomposition_2_1 F x0 x1 = some r) : (e82s2 F).den [Enc.enc x0, Arg.arg x1] = some (Enc.enc (r : Bool)) := da_put (f := fun (x : ((List (List Int)) × (Cl 88 Unit ((Rf (Int × Int)) × Unit)) × Unit)) => slices_ContainsFunc_int_int_of_i_isPathDecomposition_2_1 F x.1 x.2.1) (t := fun (r : Bool) => (Enc.enc (r : Bool))) (x0, x1, ()) h
theorem o82s2 {D : Den} {σ : Sig} {F : Nat} (hF : Fits2 Try.prog D σ) (H : H82s2 D σ F) : (e82s2 F).Ok Try.prog := by
  refine ⟨fun args r h => ?_, ⟨Try.f82, Try.func82, rfl, rfl⟩⟩
  obtain ⟨⟨x0, x1, _⟩, y, rfl, hy, rfl⟩ := da_open h
  exact contract_run hF (by kernel_rfl) Try.func82 rfl c82s2 (show 2 ≤ Try.f82.ntmps by decide) (t82s2 H x0 x1 _ ⟨rfl, rfl⟩ hy)
/- loop.example/g01109/impl.isPathDecomposition$2 -/
def A87_1 : AC := (AC.seq (AC.reg [] [(I.mk (some 4) none false (X.v (A.load Sh.p (O.t 1)))), (I.mk (some 5) none false (X.v (A.fn 88 [] [(O.t 2)]))), (I.mk (some 6) none false (X.call (O.k (V.fn 82 [] [])) [(O.t 4), (O.t 5)])), (I.mk (some 7) none false (X.v (A.un UnOp.not (O.t 6)))), (I.mk (some 3) none false (X.v (A.mov (O.t 7))))] []) AC.ret)
def A87 : AC := (AC.seq (AC.reg [.clr [2]] [(I.mk (some 2) none false (X.box (O.t 0))), (I.mk (some 3) none false (X.v (A.mov (O.k (V.bool false)))))] []) A87_1)
def an87 : List An := [{ id := 0, pre := [.clr [2]], ep := [], lin := [], sp := [] }]
theorem c87 : cC Try.prog Try.f87.ntmps an87 (Try.f87.body.getD .skip) = some A87 := by kernel_rfl
structure H87 (D : Den) (σ : Sig) (F : Nat) : Prop where
  c82s2 : ∀ (x0 : (List (List Int))) (x1 : (Cl 88 Unit ((Rf (Int × Int)) × Unit))) r, slices_ContainsFunc_int_int_of_i_isPathDecomposition_2_1 F x0 x1 = some r → D 82 [Enc.enc x0, Arg.arg x1] = some (Enc.enc (r : Bool))
  g82s2 : σ 82 = some (0, false)
abbrev R87 (r : Bool) : (Nat → V) → Prop := RR Try.prog [.tmp 3] 0 false (Enc.enc (r : Bool))
section
variable {D : Den} {σ : Sig} {F : Nat} {r : Bool}
def i_isPathDecomposition_2 (F : Nat) (e_1 : (Int × Int)) (rf_2 : (Rf (List (List Int)))) : Option Bool :=
  (slices_ContainsFunc_int_int_of_i_isPathDecomposition_2_1 F rf_2.v (Cl.mk () ((Rf.mk e_1 : (Rf (Int × Int))), ()) : (Cl 88 Unit ((Rf (Int × Int)) × Unit)))).bind fun r_3 =>
  some (!r_3)
theorem t87 (H : H87 D σ F) (e_1 : (Int × Int)) (rf_2 : (Rf (List (List Int)))) (s : Nat → V) (hs : Facts [(0, (.agg [(.int .i64 e_1.1), (.int .i64 e_1.2)])), (1, (.ref .sh 0 [] (Enc.enc (rf_2.v : List (List Int)))))] s) (h : i_isPathDecomposition_2 F e_1 rf_2 = some r) : Run D σ (R87 r) (.run A87 []) s := by
  unfold i_isPathDecomposition_2 at h
  obtain ⟨h0, h1⟩ := hs
  refine .seq ?_
  refine run_reg ?_
  refine e_clr ?_
  refine e_end ?_
  refine g_box (.agg [(.int .i64 e_1.1), (.int .i64 e_1.2)]) (rd_of (keep_clear (s := s) (pk := [2]) h0 rfl (map_agg (maps_cons rfl (maps_cons rfl maps_nil)))) rfl) (gone_clear (s := s) (pk := [2]) (t := 2) rfl) rfl ?_
  refine g_v0 (.bool false) rfl rfl ?_
  refine g_end ?_
  refine e_end ?_
  refine renew [(1, (.ref .sh 0 [] (Enc.enc (rf_2.v : List (List Int))))), (2, (.ref (.bx 2) 0 [] (.agg [(.int .i64 e_1.1), (.int .i64 e_1.2)]))), (3, (.bool false))] ⟨(keep_clear (s := s) (pk := [2]) h1 rfl rfl), rfl, rfl⟩ ?_
  rintro s ⟨h1, h2, h3⟩
  refine .nsq ?_
  refine .seq ?_
  refine run_reg ?_
  refine e_end ?_
  refine g_v1 (t := 1) (u := (.ref .sh 0 [] (Enc.enc (rf_2.v : List (List Int))))) (Enc.enc (rf_2.v : List (List Int))) h1 rfl rfl ?_
  refine g_v1 (t := 2) (u := (.ref (.bx 2) 0 [] (.agg [(.int .i64 e_1.1), (.int .i64 e_1.2)]))) (.fn 88 [] [(.ref (.bx 2) 0 [] (.agg [(.int .i64 e_1.1), (.int .i64 e_1.2)]))]) h2 rfl rfl ?_
  obtain ⟨r_3, E_r_3, h⟩ := bind_some h
  refine g_call (m := 0) (al := false) (r := (Enc.enc (r_3 : Bool))) [Enc.enc (rf_2.v : (List (List Int))), Arg.arg ((Cl.mk () ((Rf.mk e_1 : (Rf (Int × Int))), ()) : (Cl 88 Unit ((Rf (Int × Int)) × Unit))) : (Cl 88 Unit ((Rf (Int × Int)) × Unit)))] (ta_cons (v := (Enc.enc (rf_2.v : List (List Int)))) rfl rfl (Enc.erase_enc (rf_2.v : (List (List Int)))) (ta_cons (v := (.fn 88 [] [(.ref (.bx 2) 0 [] (.agg [(.int .i64 e_1.1), (.int .i64 e_1.2)]))])) rfl rfl (erase_fn erases_nil (erases_cons (erase_ref (Enc.erase_enc (e_1 : (Int × Int)))) erases_nil)) ta_nil)) (H.c82s2 _ _ _ E_r_3) H.g82s2 rfl rfl rfl rfl ?_
  refine g_v1 (t := 6) (u := (.bool r_3)) (.bool (!r_3)) rfl rfl rfl ?_
  refine g_v1 (t := 7) (u := (.bool (!r_3))) (.bool (!r_3)) rfl rfl rfl ?_
  refine g_end ?_
  refine e_end ?_
  refine renew [(3, (.bool (!r_3)))] rfl ?_
  rintro s h3
  refine .nsq ?_
  refine .ret ?_
  have hr := Option.some.inj h
  subst hr
  exact rrA (res_tmp h3) rfl
end
def e87 (F : Nat) : Ent := ⟨87, da (fun (x : ((Int × Int) × (Rf (List (List Int))) × Unit)) => i_isPathDecomposition_2 F x.1 x.2.1) (fun (r : Bool) => (Enc.enc (r : Bool))), 0, false, selF []⟩
theorem p87 {F : Nat} {x0 : (Int × Int)} {x1 : (Rf (List (List Int)))} {r : Bool} (h : i_isPathDecomposition_2 F x0 x1 = some r) : (e87 F).den [Enc.enc x0, Arg.arg x1] = some (Enc.enc (r : Bool)) := da_put (f := fun (x : ((Int × Int) × (Rf (List (List Int))) × Unit)) => i_isPathDecomposition_2 F x.1 x.2.1) (t := fun (r : Bool) => (Enc.enc (r : Bool))) (x0, x1, ()) h
theorem o87 {D : Den} {σ : Sig} {F : Nat} (hF : Fits2 Try.prog D σ) (H : H87 D σ F) : (e87 F).Ok Try.prog := by
  refine ⟨fun args r h => ?_, ⟨Try.f87, Try.func87, rfl, rfl⟩⟩
  obtain ⟨⟨x0, x1, _⟩, y, rfl, hy, rfl⟩ := da_open h
  exact contract_run hF (by kernel_rfl) Try.func87 rfl c87 (show 2 ≤ Try.f87.ntmps by decide) (t87 H x0 x1 _ ⟨rfl, rfl⟩ hy)
/- slices.IndexFunc[[][2]int,[2]int] -/
def A119s1_5 : AC := (AC.cond (O.t 16) (AC.seq (AC.reg [] [(I.mk (some 17) none false (X.v (A.mov (O.t 5)))), (I.mk (some 4) none false (X.v (A.mov (O.t 17))))] []) AC.ret) AC.skip)
def A119s1_4 : AC := (AC.seq (AC.reg [] [(I.mk (some 11) none false (X.v (A.mov (O.t 1)))), (I.mk (some 12) none false (X.v (A.mov (O.t 0)))), (I.mk (some 13) none false (X.v (A.mov (O.t 5)))), (I.mk (some 14) none false (X.v (A.idx (O.t 12) (O.t 13) 2))), (I.mk (some 15) none false (X.v (A.load (Sh.ag [Sh.s, Sh.s]) (O.t 14)))), (I.mk (some 16) none false (X.call (O.t 11) [(O.t 15)]))] []) A119s1_5)
def A119s1_6 : AC := (AC.reg [] [(I.mk (some 18) none false (X.v (A.bin BinOp.add (O.t 8) (O.k (V.int IntKind.i64 (Int.ofNat 1)))))), (I.mk (some 8) none false (X.v (A.mov (O.t 18))))] [])
def A119s1_3 : AC := (AC.seq (AC.block 1 (AC.seq (AC.reg [] [(I.mk (some 10) none false (X.v (A.mov (O.t 8)))), (I.mk (some 5) none false (X.v (A.mov (O.t 10))))] []) A119s1_4)) A119s1_6)
def A119s1_2 : AC := (AC.seq (AC.cond (O.t 9) AC.skip (AC.exit 0)) A119s1_3)
def A119s1_1 : AC := (AC.seq (AC.reg [] [(I.mk (some 9) none false (X.v (A.bin BinOp.lss (O.t 8) (O.t 7))))] []) A119s1_2)
def A119s1_7 : AC := (AC.seq (AC.reg [] [(I.mk (some 4) none false (X.v (A.mov (O.k (V.int IntKind.i64 (Int.negSucc 0))))))] []) AC.ret)
def A119s1_9 : AC := (AC.block 0 (AC.loop A119s1_1))
def A119s1_8 : AC := (AC.seq (AC.seq (AC.reg [] [(I.mk (some 6) none false (X.v (A.mov (O.t 0)))), (I.mk (some 7) none false (X.v (A.len (O.t 6)))), (I.mk (some 8) none false (X.v (A.mov (O.k (V.int IntKind.i64 (Int.ofNat 0))))))] []) A119s1_9) A119s1_7)
def A119s1 : AC := (AC.seq (AC.reg [] [(I.mk (some 4) none false (X.v (A.mov (O.k (V.int IntKind.i64 (Int.ofNat 0))))))] []) A119s1_8)
def an119s1 : List An := []
theorem c119s1 : cC Try.prog Try.f119.ntmps an119s1 (Try.f119.body.getD .skip) = some A119s1 := by kernel_rfl
structure H119s1 (D : Den) (σ : Sig) (F : Nat) : Prop where
  c87 : ∀ (x0 : (Int × Int)) (x1 : (Rf (List (List Int)))) r, i_isPathDecomposition_2 F x0 x1 = some r → D 87 [Enc.enc x0, Arg.arg x1] = some (Enc.enc (r : Bool))
  g87 : σ 87 = some (0, false)
abbrev R119s1 (r : Int) : (Nat → V) → Prop := RR Try.prog [.tmp 4] 0 false (Enc.enc (r : Int))
section
variable {D : Den} {σ : Sig} {F : Nat} {r : Int}
def slices_IndexFunc_2_int_2_int_of_i_isPathDecomposition_2_l1 (F : Nat) (s_1 : (List (Int × Int))) (f_2 : (Cl 87 Unit ((Rf (List (List Int))) × Unit)))  : Nat → Int → Option Int
  | 0, _ => none
  | k + 1, t8_5 =>
    bif decide (t8_5 < (s_1.length : Int)) then
      (idx s_1 t8_5).bind fun e_8 =>
      (i_isPathDecomposition_2 F e_8 f_2.env.1).bind fun r_9 =>
      bif r_9 then
        some t8_5
      else
        (slices_IndexFunc_2_int_2_int_of_i_isPathDecomposition_2_l1 F s_1 f_2 k) (w64 (t8_5 + 1))
    else
      some (-1)
theorem t_f119s1_l1 (H : H119s1 D σ F) (s_1 : (List (Int × Int))) (f_2 : (Cl 87 Unit ((Rf (List (List Int))) × Unit)))  : ∀ (k : Nat) (t8_5 : Int) (s : Nat → V), Facts [(0, (Enc.enc (s_1 : List (Int × Int)))), (1, (.fn 87 [] [(.ref .sh 0 [] (Enc.enc (f_2.env.1.v : List (List Int))))])), (4, (.int .i64 0)), (7, (.int .i64 (s_1.length : Int))), (8, (.int .i64 t8_5))] s → slices_IndexFunc_2_int_2_int_of_i_isPathDecomposition_2_l1 F s_1 f_2 k t8_5 = some r → Run D σ (R119s1 r) (.run A119s1_1 [.lp A119s1_1, .bk 0, .sq A119s1_7]) s := by
  intro k
  induction k with
  | zero => intro t8_5 s _ h; exact nomatch (h : (none : Option _) = some r)
  | succ k ih =>
    intro t8_5 s hs h
    rw [slices_IndexFunc_2_int_2_int_of_i_isPathDecomposition_2_l1] at h
    obtain ⟨h0, h1, h4, h7, h8⟩ := hs
    refine .seq ?_
    refine run_reg ?_
    refine e_end ?_
    refine g_v2 (t1 := 8) (t2 := 7) (u1 := (.int .i64 t8_5)) (u2 := (.int .i64 (s_1.length : Int))) (.bool (decide (t8_5 < (s_1.length : Int)))) h8 h7 rfl rfl ?_
    refine g_end ?_
    refine e_end ?_
    refine renew [(0, (Enc.enc (s_1 : List (Int × Int)))), (1, (.fn 87 [] [(.ref .sh 0 [] (Enc.enc (f_2.env.1.v : List (List Int))))])), (4, (.int .i64 0)), (7, (.int .i64 (s_1.length : Int))), (8, (.int .i64 t8_5)), (9, (.bool (decide (t8_5 < (s_1.length : Int)))))] ⟨h0, h1, h4, h7, h8, rfl⟩ ?_
    rintro s ⟨h0, h1, h4, h7, h8, h9⟩
    refine .nsq ?_
    refine .seq ?_
    refine run_cond (t := decide (t8_5 < (s_1.length : Int))) h9 h (fun h => ?_) (fun h => ?_)
    · refine .skip ?_
      refine .nsq ?_
      refine .seq ?_
      refine .block ?_
      refine .seq ?_
      refine run_reg ?_
      refine e_end ?_
      refine g_v1 (t := 8) (u := (.int .i64 t8_5)) (.int .i64 t8_5) h8 rfl rfl ?_
      refine g_v1 (t := 10) (u := (.int .i64 t8_5)) (.int .i64 t8_5) rfl rfl rfl ?_
      refine g_end ?_
      refine e_end ?_
      refine renew [(0, (Enc.enc (s_1 : List (Int × Int)))), (1, (.fn 87 [] [(.ref .sh 0 [] (Enc.enc (f_2.env.1.v : List (List Int))))])), (4, (.int .i64 0)), (5, (.int .i64 t8_5)), (7, (.int .i64 (s_1.length : Int))), (8, (.int .i64 t8_5))] ⟨h0, h1, h4, rfl, h7, h8⟩ ?_
      rintro s ⟨h0, h1, h4, h5, h7, h8⟩
      refine .nsq ?_
      refine .seq ?_
      refine run_reg ?_
      refine e_end ?_
      refine g_v1 (t := 1) (u := (.fn 87 [] [(.ref .sh 0 [] (Enc.enc (f_2.env.1.v : List (List Int))))])) (.fn 87 [] [(.ref .sh 0 [] (Enc.enc (f_2.env.1.v : List (List Int))))]) h1 rfl rfl ?_
      refine g_v1 (t := 0) (u := (Enc.enc (s_1 : List (Int × Int)))) (Enc.enc (s_1 : List (Int × Int))) h0 rfl rfl ?_
      refine g_v1 (t := 5) (u := (.int .i64 t8_5)) (.int .i64 t8_5) h5 rfl rfl ?_
      obtain ⟨e_8, E_e_8, h⟩ := bind_some h
      refine g_v (.ref .sh 0 [] (.agg [(.int .i64 e_8.1), (.int .i64 e_8.2)])) (ev_idx (t := .sh) (lo := 0) (xs := s_1) rfl rfl E_e_8 rfl rfl) ?_
      refine g_v1 (t := 14) (u := (.ref .sh 0 [] (.agg [(.int .i64 e_8.1), (.int .i64 e_8.2)]))) (.agg [(.int .i64 e_8.1), (.int .i64 e_8.2)]) rfl rfl rfl ?_
      obtain ⟨r_9, E_r_9, h⟩ := bind_some h
      refine g_callF (m := 0) (al := false) (r := (Enc.enc (r_9 : Bool))) (fs := []) (env := [(.ref .sh 0 [] (Enc.enc (f_2.env.1.v : List (List Int))))]) (us := []) (ws := [Arg.arg (f_2.env.1 : (Rf (List (List Int))))]) rfl erases_nil (erases_cons (erase_ref (Enc.erase_enc (f_2.env.1.v : (List (List Int))))) erases_nil) rfl [Enc.enc (e_8 : (Int × Int))] (ta_cons (v := (.agg [(.int .i64 e_8.1), (.int .i64 e_8.2)])) rfl rfl (Enc.erase_enc (e_8 : (Int × Int))) ta_nil) (H.c87 _ _ _ E_r_9) H.g87 rfl rfl rfl rfl ?_
      refine g_end ?_
      refine e_end ?_
      refine renew [(0, (Enc.enc (s_1 : List (Int × Int)))), (1, (.fn 87 [] [(.ref .sh 0 [] (Enc.enc (f_2.env.1.v : List (List Int))))])), (4, (.int .i64 0)), (5, (.int .i64 t8_5)), (7, (.int .i64 (s_1.length : Int))), (8, (.int .i64 t8_5)), (16, (.bool r_9))] ⟨h0, h1, h4, h5, h7, h8, rfl⟩ ?_
      rintro s ⟨h0, h1, h4, h5, h7, h8, h16⟩
      refine .nsq ?_
      refine run_cond (t := r_9) h16 h (fun h => ?_) (fun h => ?_)
      · refine .seq ?_
        refine run_reg ?_
        refine e_end ?_
        refine g_v1 (t := 5) (u := (.int .i64 t8_5)) (.int .i64 t8_5) h5 rfl rfl ?_
        refine g_v1 (t := 17) (u := (.int .i64 t8_5)) (.int .i64 t8_5) rfl rfl rfl ?_
        refine g_end ?_
        refine e_end ?_
        refine renew [(0, (Enc.enc (s_1 : List (Int × Int)))), (1, (.fn 87 [] [(.ref .sh 0 [] (Enc.enc (f_2.env.1.v : List (List Int))))])), (4, (.int .i64 t8_5)), (7, (.int .i64 (s_1.length : Int))), (8, (.int .i64 t8_5))] ⟨h0, h1, rfl, h7, h8⟩ ?_
        rintro s ⟨h0, h1, h4, h7, h8⟩
        refine .nsq ?_
        refine .ret ?_
        have hr := Option.some.inj h
        subst hr
        exact rrA (res_tmp h4) rfl
      · refine .skip ?_
        refine .nbk ?_
        refine .nsq ?_
        refine run_reg ?_
        refine e_end ?_
        refine g_v1 (t := 8) (u := (.int .i64 t8_5)) (.int .i64 (w64 (t8_5 + 1))) h8 rfl rfl ?_
        refine g_v1 (t := 18) (u := (.int .i64 (w64 (t8_5 + 1)))) (.int .i64 (w64 (t8_5 + 1))) rfl rfl rfl ?_
        refine g_end ?_
        refine e_end ?_
        refine renew [(0, (Enc.enc (s_1 : List (Int × Int)))), (1, (.fn 87 [] [(.ref .sh 0 [] (Enc.enc (f_2.env.1.v : List (List Int))))])), (4, (.int .i64 0)), (7, (.int .i64 (s_1.length : Int))), (8, (.int .i64 (w64 (t8_5 + 1))))] ⟨h0, h1, h4, h7, rfl⟩ ?_
        rintro s ⟨h0, h1, h4, h7, h8⟩
        refine .nlp ?_
        exact ih (w64 (t8_5 + 1)) _ ⟨h0, h1, h4, h7, h8⟩ h
    · refine .exit ?_
      refine .esq ?_
      refine .elp ?_
      refine .ebk ?_
      refine .nsq ?_
      refine .seq ?_
      refine run_reg ?_
      refine e_end ?_
      refine g_v0 (.int .i64 (-1)) rfl rfl ?_
      refine g_end ?_
      refine e_end ?_
      refine renew [(4, (.int .i64 (-1)))] rfl ?_
      rintro s h4
      refine .nsq ?_
      refine .ret ?_
      have hr := Option.some.inj h
      subst hr
      exact rrA (res_tmp h4) rfl
def slices_IndexFunc_2_int_2_int_of_i_isPathDecomposition_2 (F : Nat) (s_1 : (List (Int × Int))) (f_2 : (Cl 87 Unit ((Rf (List (List Int))) × Unit))) : Option Int :=
  slices_IndexFunc_2_int_2_int_of_i_isPathDecomposition_2_l1 F s_1 f_2 F 0
theorem t119s1 (H : H119s1 D σ F) (s_1 : (List (Int × Int))) (f_2 : (Cl 87 Unit ((Rf (List (List Int))) × Unit))) (s : Nat → V) (hs : Facts [(0, (Enc.enc (s_1 : List (Int × Int)))), (1, (.fn 87 [] [(.ref .sh 0 [] (Enc.enc (f_2.env.1.v : List (List Int))))]))] s) (h : slices_IndexFunc_2_int_2_int_of_i_isPathDecomposition_2 F s_1 f_2 = some r) : Run D σ (R119s1 r) (.run A119s1 []) s := by
  unfold slices_IndexFunc_2_int_2_int_of_i_isPathDecomposition_2 at h
  obtain ⟨h0, h1⟩ := hs
  refine .seq ?_
  refine run_reg ?_
  refine e_end ?_
  refine g_v0 (.int .i64 0) rfl rfl ?_
  refine g_end ?_
  refine e_end ?_
  refine renew [(0, (Enc.enc (s_1 : List (Int × Int)))), (1, (.fn 87 [] [(.ref .sh 0 [] (Enc.enc (f_2.env.1.v : List (List Int))))])), (4, (.int .i64 0))] ⟨h0, h1, rfl⟩ ?_
  rintro s ⟨h0, h1, h4⟩
  refine .nsq ?_
  refine .seq ?_
  refine .seq ?_
  refine run_reg ?_
  refine e_end ?_
  refine g_v1 (t := 0) (u := (Enc.enc (s_1 : List (Int × Int)))) (Enc.enc (s_1 : List (Int × Int))) h0 rfl rfl ?_
  refine g_v (.int .i64 (s_1.length : Int)) (ev_len (xs := s_1) rfl) ?_
  refine g_v0 (.int .i64 0) rfl rfl ?_
  refine g_end ?_
  refine e_end ?_
  refine renew [(0, (Enc.enc (s_1 : List (Int × Int)))), (1, (.fn 87 [] [(.ref .sh 0 [] (Enc.enc (f_2.env.1.v : List (List Int))))])), (4, (.int .i64 0)), (7, (.int .i64 (s_1.length : Int))), (8, (.int .i64 0))] ⟨h0, h1, h4, rfl, rfl⟩ ?_
  rintro s ⟨h0, h1, h4, h7, h8⟩
  refine .nsq ?_
  refine .block ?_
  refine .loop ?_
  exact t_f119s1_l1 H s_1 f_2 F 0 _ ⟨h0, h1, h4, h7, h8⟩ h
end
def e119s1 (F : Nat) : Ent := ⟨119, da (fun (x : ((List (Int × Int)) × (Cl 87 Unit ((Rf (List (List Int))) × Unit)) × Unit)) => slices_IndexFunc_2_int_2_int_of_i_isPathDecomposition_2 F x.1 x.2.1) (fun (r : Int) => (Enc.enc (r : Int))), 0, false, selF [(1, 87)]⟩
theorem p119s1 {F : Nat} {x0 : (List (Int × Int))} {x1 : (Cl 87 Unit ((Rf (List (List Int))) × Unit))} {r : Int} (h : slices_IndexFunc_2_int_2_int_of_i_isPathDecomposition_2 F x0 x1 = some r) : (e119s1 F).den [Enc.enc x0, Arg.arg x1] = some (Enc.enc (r : Int)) := da_put (f := fun (x : ((List (Int × Int)) × (Cl 87 Unit ((Rf (List (List Int))) × Unit)) × Unit)) => slices_IndexFunc_2_int_2_int_of_i_isPathDecomposition_2 F x.1 x.2.1) (t := fun (r : Int) => (Enc.enc (r : Int))) (x0, x1, ()) h
theorem o119s1 {D : Den} {σ : Sig} {F : Nat} (hF : Fits2 Try.prog D σ) (H : H119s1 D σ F) : (e119s1 F).Ok Try.prog := by
  refine ⟨fun args r h => ?_, ⟨Try.f119, Try.func119, rfl, rfl⟩⟩
  obtain ⟨⟨x0, x1, _⟩, y, rfl, hy, rfl⟩ := da_open h
  exact contract_run hF (by kernel_rfl) Try.func119 rfl c119s1 (show 2 ≤ Try.f119.ntmps by decide) (t119s1 H x0 x1 _ ⟨rfl, rfl⟩ hy)
/- slices.ContainsFunc[[][2]int,[2]int] -/
def A86s1_1 : AC := (AC.seq (AC.reg [] [(I.mk (some 5) none false (X.v (A.mov (O.t 0)))), (I.mk (some 6) none false (X.v (A.mov (O.t 1)))), (I.mk (some 7) none false (X.call (O.k (V.fn 119 [] [])) [(O.t 5), (O.t 6)])), (I.mk (some 8) none false (X.v (A.bin BinOp.geq (O.t 7) (O.k (V.int IntKind.i64 (Int.ofNat 0)))))), (I.mk (some 4) none false (X.v (A.mov (O.t 8))))] []) AC.ret)
def A86s1 : AC := (AC.seq (AC.reg [] [(I.mk (some 4) none false (X.v (A.mov (O.k (V.bool false)))))] []) A86s1_1)
def an86s1 : List An := []
theorem c86s1 : cC Try.prog Try.f86.ntmps an86s1 (Try.f86.body.getD .skip) = some A86s1 := by kernel_rfl
structure H86s1 (D : Den) (σ : Sig) (F : Nat) : Prop where
  c119s1 : ∀ (x0 : (List (Int × Int))) (x1 : (Cl 87 Unit ((Rf (List (List Int))) × Unit))) r, slices_IndexFunc_2_int_2_int_of_i_isPathDecomposition_2 F x0 x1 = some r → D 119 [Enc.enc x0, Arg.arg x1] = some (Enc.enc (r : Int))
  g119s1 : σ 119 = some (0, false)
abbrev R86s1 (r : Bool) : (Nat → V) → Prop := RR Try.prog [.tmp 4] 0 false (Enc.enc (r : Bool))
section
variable {D : Den} {σ : Sig} {F : Nat} {r : Bool}
def slices_ContainsFunc_2_int_2_int_of_i_isPathDecomposition_2 (F : Nat) (s_1 : (List (Int × Int))) (f_2 : (Cl 87 Unit ((Rf (List (List Int))) × Unit))) : Option Bool :=
  (slices_IndexFunc_2_int_2_int_of_i_isPathDecomposition_2 F s_1 f_2).bind fun r_3 =>
  some (decide (r_3 ≥ 0))
theorem t86s1 (H : H86s1 D σ F) (s_1 : (List (Int × Int))) (f_2 : (Cl 87 Unit ((Rf (List (List Int))) × Unit))) (s : Nat → V) (hs : Facts [(0, (Enc.enc (s_1 : List (Int × Int)))), (1, (.fn 87 [] [(.ref .sh 0 [] (Enc.enc (f_2.env.1.v : List (List Int))))]))] s) (h : slices_ContainsFunc_2_int_2_int_of_i_isPathDecomposition_2 F s_1 f_2 = some r) : Run D σ (R86s1 r) (.run A86s1 []) s := by
  unfold slices_ContainsFunc_2_int_2_int_of_i_isPathDecomposition_2 at h
  obtain ⟨h0, h1⟩ := hs
  refine .seq ?_
  refine run_reg ?_
  refine e_end ?_
  refine g_v0 (.bool false) rfl rfl ?_
  refine g_end ?_
  refine e_end ?_
  refine renew [(0, (Enc.enc (s_1 : List (Int × Int)))), (1, (.fn 87 [] [(.ref .sh 0 [] (Enc.enc (f_2.env.1.v : List (List Int))))])), (4, (.bool false))] ⟨h0, h1, rfl⟩ ?_
  rintro s ⟨h0, h1, h4⟩
  refine .nsq ?_
  refine .seq ?_
  refine run_reg ?_
  refine e_end ?_
  refine g_v1 (t := 0) (u := (Enc.enc (s_1 : List (Int × Int)))) (Enc.enc (s_1 : List (Int × Int))) h0 rfl rfl ?_
  refine g_v1 (t := 1) (u := (.fn 87 [] [(.ref .sh 0 [] (Enc.enc (f_2.env.1.v : List (List Int))))])) (.fn 87 [] [(.ref .sh 0 [] (Enc.enc (f_2.env.1.v : List (List Int))))]) h1 rfl rfl ?_
  obtain ⟨r_3, E_r_3, h⟩ := bind_some h
  refine g_call (m := 0) (al := false) (r := (Enc.enc (r_3 : Int))) [Enc.enc (s_1 : (List (Int × Int))), Arg.arg (f_2 : (Cl 87 Unit ((Rf (List (List Int))) × Unit)))] (ta_cons (v := (Enc.enc (s_1 : List (Int × Int)))) rfl rfl (Enc.erase_enc (s_1 : (List (Int × Int)))) (ta_cons (v := (.fn 87 [] [(.ref .sh 0 [] (Enc.enc (f_2.env.1.v : List (List Int))))])) rfl rfl (erase_fn erases_nil (erases_cons (erase_ref (Enc.erase_enc (f_2.env.1.v : (List (List Int))))) erases_nil)) ta_nil)) (H.c119s1 _ _ _ E_r_3) H.g119s1 rfl rfl rfl rfl ?_
  refine g_v1 (t := 7) (u := (.int .i64 r_3)) (.bool (decide (r_3 ≥ 0))) rfl rfl rfl ?_
  refine g_v1 (t := 8) (u := (.bool (decide (r_3 ≥ 0)))) (.bool (decide (r_3 ≥ 0))) rfl rfl rfl ?_
  refine g_end ?_
  refine e_end ?_
  refine renew [(4, (.bool (decide (r_3 ≥ 0))))] rfl ?_
  rintro s h4
  refine .nsq ?_
  refine .ret ?_
  have hr := Option.some.inj h
  subst hr
  exact rrA (res_tmp h4) rfl
end
def e86s1 (F : Nat) : Ent := ⟨86, da (fun (x : ((List (Int × Int)) × (Cl 87 Unit ((Rf (List (List Int))) × Unit)) × Unit)) => slices_ContainsFunc_2_int_2_int_of_i_isPathDecomposition_2 F x.1 x.2.1) (fun (r : Bool) => (Enc.enc (r : Bool))), 0, false, selF [(1, 87)]⟩
theorem p86s1 {F : Nat} {x0 : (List (Int × Int))} {x1 : (Cl 87 Unit ((Rf (List (List Int))) × Unit))} {r : Bool} (h : slices_ContainsFunc_2_int_2_int_of_i_isPathDecomposition_2 F x0 x1 = some r) : (e86s1 F).den [Enc.enc x0, Arg.arg x1] = some (Enc.enc (r : Bool)) := da_put (f := fun (x : ((List (Int × Int)) × (Cl 87 Unit ((Rf (List (List Int))) × Unit)) × Unit)) => slices_ContainsFunc_2_int_2_int_of_i_isPathDecomposition_2 F x.1 x.2.1) (t := fun (r : Bool) => (Enc.enc (r : Bool))) (x0, x1, ()) h
theorem o86s1 {D : Den} {σ : Sig} {F : Nat} (hF : Fits2 Try.prog D σ) (H : H86s1 D σ F) : (e86s1 F).Ok Try.prog := by
  refine ⟨fun args r h => ?_, ⟨Try.f86, Try.func86, rfl, rfl⟩⟩
  obtain ⟨⟨x0, x1, _⟩, y, rfl, hy, rfl⟩ := da_open h
  exact contract_run hF (by kernel_rfl) Try.func86 rfl c86s1 (show 2 ≤ Try.f86.ntmps by decide) (t86s1 H x0 x1 _ ⟨rfl, rfl⟩ hy)
end Go.Zq
