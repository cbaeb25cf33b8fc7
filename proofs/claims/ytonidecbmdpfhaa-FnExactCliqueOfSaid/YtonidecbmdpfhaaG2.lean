/- Functions of the program as typed functions, and that the machine runs as they say (part 2). No further condition. -/
import Derived.Test.YtonidecbmdpfhaaK3
import Derived.Test.YtonidecbmdpfhaaProg
import Derived.Test.YtonidecbmdpfhaaChecked
import Derived.KernelRfl
import Derived.Test.YtonidecbmdpfhaaG1
set_option linter.unusedVariables false
set_option linter.unusedSimpArgs false
/- Functions of the program, as typed functions, and that the machine runs as they say. -/
namespace Go.Zq
open Go.Proofs
/- slices.Compare[[]int,int] -/
def A101_5 : AC := (AC.cond (O.t 19) (AC.seq (AC.reg [] [(I.mk (some 4) none false (X.v (A.mov (O.k (V.int IntKind.i64 (Int.ofNat 1))))))] []) AC.ret) AC.skip)
def A101_9 : AC := (AC.cond (O.t 28) (AC.seq (AC.reg [] [(I.mk (some 29) none false (X.v (A.mov (O.t 8)))), (I.mk (some 4) none false (X.v (A.mov (O.t 29))))] []) AC.ret) AC.skip)
def A101_8 : AC := (AC.seq (AC.reg [] [(I.mk (some 27) none false (X.v (A.mov (O.t 8)))), (I.mk (some 28) none false (X.v (A.bin BinOp.neq (O.t 27) (O.k (V.int IntKind.i64 (Int.ofNat 0))))))] []) A101_9)
def A101_7 : AC := (AC.seq (AC.reg [] [(I.mk (some 24) none false (X.v (A.mov (O.t 6)))), (I.mk (some 25) none false (X.v (A.mov (O.t 7)))), (I.mk (some 26) none false (X.call (O.k (V.fn 123 [] [])) [(O.t 24), (O.t 25)])), (I.mk (some 8) none false (X.v (A.mov (O.t 26))))] []) A101_8)
def A101_6 : AC := (AC.seq (AC.reg [] [(I.mk (some 20) none false (X.v (A.mov (O.t 1)))), (I.mk (some 21) none false (X.v (A.mov (O.t 5)))), (I.mk (some 22) none false (X.v (A.idx (O.t 20) (O.t 21) 1))), (I.mk (some 23) none false (X.v (A.load Sh.s (O.t 22)))), (I.mk (some 7) none false (X.v (A.mov (O.t 23))))] []) A101_7)
def A101_4 : AC := (AC.seq (AC.seq (AC.reg [] [(I.mk (some 16) none false (X.v (A.mov (O.t 5)))), (I.mk (some 17) none false (X.v (A.mov (O.t 1)))), (I.mk (some 18) none false (X.v (A.len (O.t 17)))), (I.mk (some 19) none false (X.v (A.bin BinOp.geq (O.t 16) (O.t 18))))] []) A101_5) A101_6)
def A101_10 : AC := (AC.reg [] [(I.mk (some 30) none false (X.v (A.bin BinOp.add (O.t 11) (O.k (V.int IntKind.i64 (Int.ofNat 1)))))), (I.mk (some 11) none false (X.v (A.mov (O.t 30))))] [])
def A101_3 : AC := (AC.seq (AC.block 1 (AC.seq (AC.reg [] [(I.mk (some 13) none false (X.v (A.mov (O.t 11)))), (I.mk (some 14) none false (X.v (A.idx (O.t 9) (O.t 11) 1))), (I.mk (some 15) none false (X.v (A.load Sh.s (O.t 14)))), (I.mk (some 5) none false (X.v (A.mov (O.t 13)))), (I.mk (some 6) none false (X.v (A.mov (O.t 15))))] []) A101_4)) A101_10)
def A101_2 : AC := (AC.seq (AC.cond (O.t 12) AC.skip (AC.exit 0)) A101_3)
def A101_1 : AC := (AC.seq (AC.reg [] [(I.mk (some 12) none false (X.v (A.bin BinOp.lss (O.t 11) (O.t 10))))] []) A101_2)
def A101_12 : AC := (AC.cond (O.t 35) (AC.seq (AC.reg [] [(I.mk (some 4) none false (X.v (A.mov (O.k (V.int IntKind.i64 (Int.negSucc 0))))))] []) AC.ret) AC.skip)
def A101_13 : AC := (AC.seq (AC.reg [] [(I.mk (some 4) none false (X.v (A.mov (O.k (V.int IntKind.i64 (Int.ofNat 0))))))] []) AC.ret)
def A101_11 : AC := (AC.seq (AC.seq (AC.reg [] [(I.mk (some 31) none false (X.v (A.mov (O.t 0)))), (I.mk (some 32) none false (X.v (A.len (O.t 31)))), (I.mk (some 33) none false (X.v (A.mov (O.t 1)))), (I.mk (some 34) none false (X.v (A.len (O.t 33)))), (I.mk (some 35) none false (X.v (A.bin BinOp.lss (O.t 32) (O.t 34))))] []) A101_12) A101_13)
def A101_15 : AC := (AC.block 0 (AC.loop A101_1))
def A101_14 : AC := (AC.seq (AC.seq (AC.reg [] [(I.mk (some 9) none false (X.v (A.mov (O.t 0)))), (I.mk (some 10) none false (X.v (A.len (O.t 9)))), (I.mk (some 11) none false (X.v (A.mov (O.k (V.int IntKind.i64 (Int.ofNat 0))))))] []) A101_15) A101_11)
def A101 : AC := (AC.seq (AC.reg [] [(I.mk (some 4) none false (X.v (A.mov (O.k (V.int IntKind.i64 (Int.ofNat 0))))))] []) A101_14)
def an101 : List An := []
theorem c101 : cC Try.prog Try.f101.ntmps an101 (Try.f101.body.getD .skip) = some A101 := by kernel_rfl
structure H101 (D : Den) (σ : Sig) (F : Nat) : Prop where
  c123 : ∀ (x0 : Int) (x1 : Int) r, cmp_Compare_int F x0 x1 = some r → D 123 [Enc.enc x0, Enc.enc x1] = some (Enc.enc (r : Int))
  g123 : σ 123 = some (0, false)
abbrev R101 (r : Int) : (Nat → V) → Prop := RR Try.prog [.tmp 4] 0 false (Enc.enc (r : Int))
section
variable {D : Den} {σ : Sig} {F : Nat} {r : Int}
def slices_Compare_l1 (F : Nat) (s1_1 : (List Int)) (s2_2 : (List Int))  : Nat → Int → Option Int
  | 0, _ => none
  | k + 1, t11_6 =>
    bif decide (t11_6 < (s1_1.length : Int)) then
      (idx s1_1 t11_6).bind fun e_10 =>
      bif decide (t11_6 ≥ (s2_2.length : Int)) then
        some 1
      else
        (idx s2_2 t11_6).bind fun e_11 =>
        (cmp_Compare_int F e_10 e_11).bind fun r_12 =>
        bif (r_12 != 0) then
          some r_12
        else
          (slices_Compare_l1 F s1_1 s2_2 k) (w64 (t11_6 + 1))
    else
      bif decide ((s1_1.length : Int) < (s2_2.length : Int)) then
        some (-1)
      else
        some 0
theorem t_f101_l1 (H : H101 D σ F) (s1_1 : (List Int)) (s2_2 : (List Int))  : ∀ (k : Nat) (t11_6 : Int) (s : Nat → V), Facts [(0, (Enc.enc (s1_1 : List Int))), (1, (Enc.enc (s2_2 : List Int))), (4, (.int .i64 0)), (9, (Enc.enc (s1_1 : List Int))), (10, (.int .i64 (s1_1.length : Int))), (11, (.int .i64 t11_6))] s → slices_Compare_l1 F s1_1 s2_2 k t11_6 = some r → Run D σ (R101 r) (.run A101_1 [.lp A101_1, .bk 0, .sq A101_11]) s := by
  intro k
  induction k with
  | zero => intro t11_6 s _ h; exact nomatch (h : (none : Option _) = some r)
  | succ k ih =>
    intro t11_6 s hs h
    rw [slices_Compare_l1] at h
    obtain ⟨h0, h1, h4, h9, h10, h11⟩ := hs
    refine .seq ?_
    refine run_reg ?_
    refine e_end ?_
    refine g_v2 (t1 := 11) (t2 := 10) (u1 := (.int .i64 t11_6)) (u2 := (.int .i64 (s1_1.length : Int))) (.bool (decide (t11_6 < (s1_1.length : Int)))) h11 h10 rfl rfl ?_
    refine g_end ?_
    refine e_end ?_
    refine renew [(0, (Enc.enc (s1_1 : List Int))), (1, (Enc.enc (s2_2 : List Int))), (4, (.int .i64 0)), (9, (Enc.enc (s1_1 : List Int))), (10, (.int .i64 (s1_1.length : Int))), (11, (.int .i64 t11_6)), (12, (.bool (decide (t11_6 < (s1_1.length : Int)))))] ⟨h0, h1, h4, h9, h10, h11, rfl⟩ ?_
    rintro s ⟨h0, h1, h4, h9, h10, h11, h12⟩
    refine .nsq ?_
    refine .seq ?_
    refine run_cond (t := decide (t11_6 < (s1_1.length : Int))) h12 h (fun h => ?_) (fun h => ?_)
    · refine .skip ?_
      refine .nsq ?_
      refine .seq ?_
      refine .block ?_
      refine .seq ?_
      refine run_reg ?_
      refine e_end ?_
      refine g_v1 (t := 11) (u := (.int .i64 t11_6)) (.int .i64 t11_6) h11 rfl rfl ?_
      obtain ⟨e_10, E_e_10, h⟩ := bind_some h
      refine g_v (.ref .sh 0 [] (.int .i64 e_10)) (ev_idx (t := .sh) (lo := 0) (xs := s1_1) h9 h11 E_e_10 rfl rfl) ?_
      refine g_v1 (t := 14) (u := (.ref .sh 0 [] (.int .i64 e_10))) (.int .i64 e_10) rfl rfl rfl ?_
      refine g_v1 (t := 13) (u := (.int .i64 t11_6)) (.int .i64 t11_6) rfl rfl rfl ?_
      refine g_v1 (t := 15) (u := (.int .i64 e_10)) (.int .i64 e_10) rfl rfl rfl ?_
      refine g_end ?_
      refine e_end ?_
      refine renew [(0, (Enc.enc (s1_1 : List Int))), (1, (Enc.enc (s2_2 : List Int))), (4, (.int .i64 0)), (5, (.int .i64 t11_6)), (6, (.int .i64 e_10)), (9, (Enc.enc (s1_1 : List Int))), (10, (.int .i64 (s1_1.length : Int))), (11, (.int .i64 t11_6))] ⟨h0, h1, h4, rfl, rfl, h9, h10, h11⟩ ?_
      rintro s ⟨h0, h1, h4, h5, h6, h9, h10, h11⟩
      refine .nsq ?_
      refine .seq ?_
      refine .seq ?_
      refine run_reg ?_
      refine e_end ?_
      refine g_v1 (t := 5) (u := (.int .i64 t11_6)) (.int .i64 t11_6) h5 rfl rfl ?_
      refine g_v1 (t := 1) (u := (Enc.enc (s2_2 : List Int))) (Enc.enc (s2_2 : List Int)) h1 rfl rfl ?_
      refine g_v (.int .i64 (s2_2.length : Int)) (ev_len (xs := s2_2) rfl) ?_
      refine g_v2 (t1 := 16) (t2 := 18) (u1 := (.int .i64 t11_6)) (u2 := (.int .i64 (s2_2.length : Int))) (.bool (decide (t11_6 ≥ (s2_2.length : Int)))) rfl rfl rfl rfl ?_
      refine g_end ?_
      refine e_end ?_
      refine renew [(0, (Enc.enc (s1_1 : List Int))), (1, (Enc.enc (s2_2 : List Int))), (4, (.int .i64 0)), (5, (.int .i64 t11_6)), (6, (.int .i64 e_10)), (9, (Enc.enc (s1_1 : List Int))), (10, (.int .i64 (s1_1.length : Int))), (11, (.int .i64 t11_6)), (19, (.bool (decide (t11_6 ≥ (s2_2.length : Int)))))] ⟨h0, h1, h4, h5, h6, h9, h10, h11, rfl⟩ ?_
      rintro s ⟨h0, h1, h4, h5, h6, h9, h10, h11, h19⟩
      refine .nsq ?_
      refine run_cond (t := decide (t11_6 ≥ (s2_2.length : Int))) h19 h (fun h => ?_) (fun h => ?_)
      · refine .seq ?_
        refine run_reg ?_
        refine e_end ?_
        refine g_v0 (.int .i64 1) rfl rfl ?_
        refine g_end ?_
        refine e_end ?_
        refine renew [(0, (Enc.enc (s1_1 : List Int))), (1, (Enc.enc (s2_2 : List Int))), (4, (.int .i64 1)), (5, (.int .i64 t11_6)), (6, (.int .i64 e_10)), (9, (Enc.enc (s1_1 : List Int))), (10, (.int .i64 (s1_1.length : Int))), (11, (.int .i64 t11_6))] ⟨h0, h1, rfl, h5, h6, h9, h10, h11⟩ ?_
        rintro s ⟨h0, h1, h4, h5, h6, h9, h10, h11⟩
        refine .nsq ?_
        refine .ret ?_
        have hr := Option.some.inj h
        subst hr
        exact rrA (res_tmp h4) rfl
      · refine .skip ?_
        refine .nsq ?_
        refine .seq ?_
        refine run_reg ?_
        refine e_end ?_
        refine g_v1 (t := 1) (u := (Enc.enc (s2_2 : List Int))) (Enc.enc (s2_2 : List Int)) h1 rfl rfl ?_
        refine g_v1 (t := 5) (u := (.int .i64 t11_6)) (.int .i64 t11_6) h5 rfl rfl ?_
        obtain ⟨e_11, E_e_11, h⟩ := bind_some h
        refine g_v (.ref .sh 0 [] (.int .i64 e_11)) (ev_idx (t := .sh) (lo := 0) (xs := s2_2) rfl rfl E_e_11 rfl rfl) ?_
        refine g_v1 (t := 22) (u := (.ref .sh 0 [] (.int .i64 e_11))) (.int .i64 e_11) rfl rfl rfl ?_
        refine g_v1 (t := 23) (u := (.int .i64 e_11)) (.int .i64 e_11) rfl rfl rfl ?_
        refine g_end ?_
        refine e_end ?_
        refine renew [(0, (Enc.enc (s1_1 : List Int))), (1, (Enc.enc (s2_2 : List Int))), (4, (.int .i64 0)), (6, (.int .i64 e_10)), (7, (.int .i64 e_11)), (9, (Enc.enc (s1_1 : List Int))), (10, (.int .i64 (s1_1.length : Int))), (11, (.int .i64 t11_6))] ⟨h0, h1, h4, h6, rfl, h9, h10, h11⟩ ?_
        rintro s ⟨h0, h1, h4, h6, h7, h9, h10, h11⟩
        refine .nsq ?_
        refine .seq ?_
        refine run_reg ?_
        refine e_end ?_
        refine g_v1 (t := 6) (u := (.int .i64 e_10)) (.int .i64 e_10) h6 rfl rfl ?_
        refine g_v1 (t := 7) (u := (.int .i64 e_11)) (.int .i64 e_11) h7 rfl rfl ?_
        obtain ⟨r_12, E_r_12, h⟩ := bind_some h
        refine g_call (m := 0) (al := false) (r := (Enc.enc (r_12 : Int))) [Enc.enc (e_10 : Int), Enc.enc (e_11 : Int)] (ta_cons (v := (.int .i64 e_10)) rfl rfl rfl (ta_cons (v := (.int .i64 e_11)) rfl rfl rfl ta_nil)) (H.c123 _ _ _ E_r_12) H.g123 rfl rfl rfl rfl ?_
        refine g_v1 (t := 26) (u := (.int .i64 r_12)) (.int .i64 r_12) rfl rfl rfl ?_
        refine g_end ?_
        refine e_end ?_
        refine renew [(0, (Enc.enc (s1_1 : List Int))), (1, (Enc.enc (s2_2 : List Int))), (4, (.int .i64 0)), (8, (.int .i64 r_12)), (9, (Enc.enc (s1_1 : List Int))), (10, (.int .i64 (s1_1.length : Int))), (11, (.int .i64 t11_6))] ⟨h0, h1, h4, rfl, h9, h10, h11⟩ ?_
        rintro s ⟨h0, h1, h4, h8, h9, h10, h11⟩
        refine .nsq ?_
        refine .seq ?_
        refine run_reg ?_
        refine e_end ?_
        refine g_v1 (t := 8) (u := (.int .i64 r_12)) (.int .i64 r_12) h8 rfl rfl ?_
        refine g_v1 (t := 27) (u := (.int .i64 r_12)) (.bool (r_12 != 0)) rfl rfl rfl ?_
        refine g_end ?_
        refine e_end ?_
        refine renew [(0, (Enc.enc (s1_1 : List Int))), (1, (Enc.enc (s2_2 : List Int))), (4, (.int .i64 0)), (8, (.int .i64 r_12)), (9, (Enc.enc (s1_1 : List Int))), (10, (.int .i64 (s1_1.length : Int))), (11, (.int .i64 t11_6)), (28, (.bool (r_12 != 0)))] ⟨h0, h1, h4, h8, h9, h10, h11, rfl⟩ ?_
        rintro s ⟨h0, h1, h4, h8, h9, h10, h11, h28⟩
        refine .nsq ?_
        refine run_cond (t := (r_12 != 0)) h28 h (fun h => ?_) (fun h => ?_)
        · refine .seq ?_
          refine run_reg ?_
          refine e_end ?_
          refine g_v1 (t := 8) (u := (.int .i64 r_12)) (.int .i64 r_12) h8 rfl rfl ?_
          refine g_v1 (t := 29) (u := (.int .i64 r_12)) (.int .i64 r_12) rfl rfl rfl ?_
          refine g_end ?_
          refine e_end ?_
          refine renew [(0, (Enc.enc (s1_1 : List Int))), (1, (Enc.enc (s2_2 : List Int))), (4, (.int .i64 r_12)), (9, (Enc.enc (s1_1 : List Int))), (10, (.int .i64 (s1_1.length : Int))), (11, (.int .i64 t11_6))] ⟨h0, h1, rfl, h9, h10, h11⟩ ?_
          rintro s ⟨h0, h1, h4, h9, h10, h11⟩
          refine .nsq ?_
          refine .ret ?_
          have hr := Option.some.inj h
          subst hr
          exact rrA (res_tmp h4) rfl
        · refine .skip ?_
          refine .nbk ?_
          refine .nsq ?_
          refine run_reg ?_
          refine e_end ?_
          refine g_v1 (t := 11) (u := (.int .i64 t11_6)) (.int .i64 (w64 (t11_6 + 1))) h11 rfl rfl ?_
          refine g_v1 (t := 30) (u := (.int .i64 (w64 (t11_6 + 1)))) (.int .i64 (w64 (t11_6 + 1))) rfl rfl rfl ?_
          refine g_end ?_
          refine e_end ?_
          refine renew [(0, (Enc.enc (s1_1 : List Int))), (1, (Enc.enc (s2_2 : List Int))), (4, (.int .i64 0)), (9, (Enc.enc (s1_1 : List Int))), (10, (.int .i64 (s1_1.length : Int))), (11, (.int .i64 (w64 (t11_6 + 1))))] ⟨h0, h1, h4, h9, h10, rfl⟩ ?_
          rintro s ⟨h0, h1, h4, h9, h10, h11⟩
          refine .nlp ?_
          exact ih (w64 (t11_6 + 1)) _ ⟨h0, h1, h4, h9, h10, h11⟩ h
    · refine .exit ?_
      refine .esq ?_
      refine .elp ?_
      refine .ebk ?_
      refine .nsq ?_
      refine .seq ?_
      refine .seq ?_
      refine run_reg ?_
      refine e_end ?_
      refine g_v1 (t := 0) (u := (Enc.enc (s1_1 : List Int))) (Enc.enc (s1_1 : List Int)) h0 rfl rfl ?_
      refine g_v (.int .i64 (s1_1.length : Int)) (ev_len (xs := s1_1) rfl) ?_
      refine g_v1 (t := 1) (u := (Enc.enc (s2_2 : List Int))) (Enc.enc (s2_2 : List Int)) h1 rfl rfl ?_
      refine g_v (.int .i64 (s2_2.length : Int)) (ev_len (xs := s2_2) rfl) ?_
      refine g_v2 (t1 := 32) (t2 := 34) (u1 := (.int .i64 (s1_1.length : Int))) (u2 := (.int .i64 (s2_2.length : Int))) (.bool (decide ((s1_1.length : Int) < (s2_2.length : Int)))) rfl rfl rfl rfl ?_
      refine g_end ?_
      refine e_end ?_
      refine renew [(4, (.int .i64 0)), (35, (.bool (decide ((s1_1.length : Int) < (s2_2.length : Int)))))] ⟨h4, rfl⟩ ?_
      rintro s ⟨h4, h35⟩
      refine .nsq ?_
      refine run_cond (t := decide ((s1_1.length : Int) < (s2_2.length : Int))) h35 h (fun h => ?_) (fun h => ?_)
      · refine .seq ?_
        refine run_reg ?_
        refine e_end ?_
        refine g_v0 (.int .i64 (-1)) rfl rfl ?_
        refine g_end ?_
        refine e_end ?_
        refine renew [(4, (.int .i64 (-1)))] rfl ?_
        rintro s h4
        refine .nsq ?_
        refine .ret ?_
        have hr := Option.some.inj h
        subst hr
        exact rrA (res_tmp h4) rfl
      · refine .skip ?_
        refine .nsq ?_
        refine .seq ?_
        refine run_reg ?_
        refine e_end ?_
        refine g_v0 (.int .i64 0) rfl rfl ?_
        refine g_end ?_
        refine e_end ?_
        refine renew [(4, (.int .i64 0))] rfl ?_
        rintro s h4
        refine .nsq ?_
        refine .ret ?_
        have hr := Option.some.inj h
        subst hr
        exact rrA (res_tmp h4) rfl
def slices_Compare (F : Nat) (s1_1 : (List Int)) (s2_2 : (List Int)) : Option Int :=
  slices_Compare_l1 F s1_1 s2_2 F 0
theorem t101 (H : H101 D σ F) (s1_1 : (List Int)) (s2_2 : (List Int)) (s : Nat → V) (hs : Facts [(0, (Enc.enc (s1_1 : List Int))), (1, (Enc.enc (s2_2 : List Int)))] s) (h : slices_Compare F s1_1 s2_2 = some r) : Run D σ (R101 r) (.run A101 []) s := by
  unfold slices_Compare at h
  obtain ⟨h0, h1⟩ := hs
  refine .seq ?_
  refine run_reg ?_
  refine e_end ?_
  refine g_v0 (.int .i64 0) rfl rfl ?_
  refine g_end ?_
  refine e_end ?_
  refine renew [(0, (Enc.enc (s1_1 : List Int))), (1, (Enc.enc (s2_2 : List Int))), (4, (.int .i64 0))] ⟨h0, h1, rfl⟩ ?_
  rintro s ⟨h0, h1, h4⟩
  refine .nsq ?_
  refine .seq ?_
  refine .seq ?_
  refine run_reg ?_
  refine e_end ?_
  refine g_v1 (t := 0) (u := (Enc.enc (s1_1 : List Int))) (Enc.enc (s1_1 : List Int)) h0 rfl rfl ?_
  refine g_v (.int .i64 (s1_1.length : Int)) (ev_len (xs := s1_1) rfl) ?_
  refine g_v0 (.int .i64 0) rfl rfl ?_
  refine g_end ?_
  refine e_end ?_
  refine renew [(0, (Enc.enc (s1_1 : List Int))), (1, (Enc.enc (s2_2 : List Int))), (4, (.int .i64 0)), (9, (Enc.enc (s1_1 : List Int))), (10, (.int .i64 (s1_1.length : Int))), (11, (.int .i64 0))] ⟨h0, h1, h4, rfl, rfl, rfl⟩ ?_
  rintro s ⟨h0, h1, h4, h9, h10, h11⟩
  refine .nsq ?_
  refine .block ?_
  refine .loop ?_
  exact t_f101_l1 H s1_1 s2_2 F 0 _ ⟨h0, h1, h4, h9, h10, h11⟩ h
end
def e101 (F : Nat) : Ent := ⟨101, da (fun (x : ((List Int) × (List Int) × Unit)) => slices_Compare F x.1 x.2.1) (fun (r : Int) => (Enc.enc (r : Int))), 0, false, selF []⟩
theorem p101 {F : Nat} {x0 : (List Int)} {x1 : (List Int)} {r : Int} (h : slices_Compare F x0 x1 = some r) : (e101 F).den [Enc.enc x0, Enc.enc x1] = some (Enc.enc (r : Int)) := da_put (f := fun (x : ((List Int) × (List Int) × Unit)) => slices_Compare F x.1 x.2.1) (t := fun (r : Int) => (Enc.enc (r : Int))) (x0, x1, ()) h
theorem o101 {D : Den} {σ : Sig} {F : Nat} (hF : Fits2 Try.prog D σ) (H : H101 D σ F) : (e101 F).Ok Try.prog := by
  refine ok_of (f := 101) (show unk 101 = 101 from rfl) (fun args r h => ?_) ⟨Try.f101, Try.func101, rfl, rfl⟩
  obtain ⟨⟨x0, x1, _⟩, y, rfl, hy, rfl⟩ := da_open h
  exact contract_run hF (by kernel_rfl) Try.func101 rfl c101 (show 2 ≤ Try.f101.ntmps by decide) (t101 H x0 x1 _ ⟨rfl, rfl⟩ hy)
/- loop.example/g01109/impl.IsGraph -/
def A51_5 : AC := (AC.cond (O.t 48) (AC.seq (AC.reg [] [(I.mk (some 2) none false (X.v (A.mov (O.k (V.bool false)))))] []) AC.ret) AC.skip)
def A51_4 : AC := (AC.seq (AC.reg [] [(I.mk (some 17) none false (X.v (A.idxA (O.t 4) (O.k (V.int IntKind.i64 (Int.ofNat 0))) 2 1))), (I.mk (some 18) none false (X.v (A.load Sh.s (O.t 17)))), (I.mk (some 19) none false (X.v (A.bin BinOp.lss (O.t 18) (O.k (V.int IntKind.i64 (Int.ofNat 0)))))), (I.mk (some 20) none false (X.v (A.mov (O.t 19)))), (I.mk (some 21) (some (20, false)) false (X.v (A.idxA (O.t 4) (O.k (V.int IntKind.i64 (Int.ofNat 0))) 2 1))), (I.mk (some 22) (some (20, false)) false (X.v (A.load Sh.s (O.t 21)))), (I.mk (some 23) (some (20, false)) false (X.v (A.idxA (O.t 4) (O.k (V.int IntKind.i64 (Int.ofNat 1))) 2 1))), (I.mk (some 24) (some (20, false)) false (X.v (A.load Sh.s (O.t 23)))), (I.mk (some 25) (some (20, false)) false (X.v (A.bin BinOp.geq (O.t 22) (O.t 24)))), (I.mk (some 26) none false (X.v (A.pick (O.t 20) (O.k (V.bool true)) (O.t 25)))), (I.mk (some 27) none false (X.v (A.mov (O.t 26)))), (I.mk (some 28) (some (27, false)) false (X.v (A.idxA (O.t 4) (O.k (V.int IntKind.i64 (Int.ofNat 1))) 2 1))), (I.mk (some 29) (some (27, false)) false (X.v (A.load Sh.s (O.t 28)))), (I.mk (some 30) (some (27, false)) false (X.v (A.fld (O.t 1) 0 0))), (I.mk (some 31) (some (27, false)) false (X.v (A.load Sh.s (O.t 30)))), (I.mk (some 32) (some (27, false)) false (X.v (A.bin BinOp.geq (O.t 29) (O.t 31)))), (I.mk (some 33) none false (X.v (A.pick (O.t 27) (O.k (V.bool true)) (O.t 32)))), (I.mk (some 34) none false (X.v (A.mov (O.t 33)))), (I.mk (some 35) (some (34, false)) false (X.v (A.mov (O.t 3)))), (I.mk (some 36) (some (34, false)) false (X.v (A.bin BinOp.gtr (O.t 35) (O.k (V.int IntKind.i64 (Int.ofNat 0)))))), (I.mk (some 37) (some (34, false)) false (X.v (A.mov (O.t 36)))), (I.mk (some 38) (some (37, true)) false (X.v (A.fld (O.t 1) 1 1))), (I.mk (some 39) (some (37, true)) false (X.v (A.load Sh.p (O.t 38)))), (I.mk (some 40) (some (37, true)) false (X.v (A.mov (O.t 3)))), (I.mk (some 41) (some (37, true)) false (X.v (A.bin BinOp.sub (O.t 40) (O.k (V.int IntKind.i64 (Int.ofNat 1)))))), (I.mk (some 42) (some (37, true)) false (X.v (A.idx (O.t 39) (O.t 41) 2))), (I.mk (some 43) (some (37, true)) false (X.v (A.sliceA (O.t 42) 2 Sh.s))), (I.mk (some 44) (some (37, true)) false (X.v (A.sliceA (O.t 4) 2 Sh.s))), (I.mk (some 45) (some (37, true)) false (X.call (O.k (V.fn 101 [] [])) [(O.t 43), (O.t 44)])), (I.mk (some 46) (some (37, true)) false (X.v (A.bin BinOp.geq (O.t 45) (O.k (V.int IntKind.i64 (Int.ofNat 0)))))), (I.mk (some 47) (some (34, false)) false (X.v (A.pick (O.t 37) (O.t 46) (O.k (V.bool false))))), (I.mk (some 48) none false (X.v (A.pick (O.t 34) (O.k (V.bool true)) (O.t 47))))] []) A51_5)
def A51_6 : AC := (AC.reg [] [(I.mk (some 49) none false (X.v (A.bin BinOp.add (O.t 12) (O.k (V.int IntKind.i64 (Int.ofNat 1)))))), (I.mk (some 12) none false (X.v (A.mov (O.t 49))))] [])
def A51_3 : AC := (AC.seq (AC.block 1 (AC.seq (AC.reg [.clr [4]] [(I.mk (some 14) none false (X.v (A.mov (O.t 12)))), (I.mk (some 15) none false (X.v (A.idx (O.t 10) (O.t 12) 2))), (I.mk (some 16) none false (X.v (A.load (Sh.ag [Sh.s, Sh.s]) (O.t 15)))), (I.mk (some 4) none false (X.alloc (V.agg [(V.int IntKind.i64 (Int.ofNat 0)), (V.int IntKind.i64 (Int.ofNat 0))]))), (I.mk (some 3) none false (X.v (A.mov (O.t 14)))), (I.mk none none false (X.store (Sh.ag [Sh.s, Sh.s]) (O.t 4) (O.t 16)))] []) A51_4)) A51_6)
def A51_2 : AC := (AC.seq (AC.cond (O.t 13) AC.skip (AC.exit 0)) A51_3)
def A51_1 : AC := (AC.seq (AC.reg [] [(I.mk (some 13) none false (X.v (A.bin BinOp.lss (O.t 12) (O.t 11))))] []) A51_2)
def A51_7 : AC := (AC.seq (AC.reg [] [(I.mk (some 2) none false (X.v (A.mov (O.k (V.bool true)))))] []) AC.ret)
def A51_9 : AC := (AC.cond (O.t 8) (AC.seq (AC.reg [] [(I.mk (some 2) none false (X.v (A.mov (O.k (V.bool false)))))] []) AC.ret) AC.skip)
def A51_11 : AC := (AC.block 0 (AC.loop A51_1))
def A51_10 : AC := (AC.seq (AC.seq (AC.reg [] [(I.mk (some 9) none false (X.v (A.fld (O.t 1) 1 1))), (I.mk (some 10) none false (X.v (A.load Sh.p (O.t 9)))), (I.mk (some 11) none false (X.v (A.len (O.t 10)))), (I.mk (some 12) none false (X.v (A.mov (O.k (V.int IntKind.i64 (Int.ofNat 0))))))] []) A51_11) A51_7)
def A51_8 : AC := (AC.seq (AC.seq (AC.reg [] [(I.mk (some 5) none false (X.v (A.fld (O.t 1) 0 0))), (I.mk (some 6) none false (X.v (A.load Sh.s (O.t 5)))), (I.mk (some 7) none false (X.call (O.k (V.fn 100 [] [])) [(O.t 6), (O.k (V.int IntKind.i64 (Int.ofNat 0))), (O.k (V.int IntKind.i64 (Int.ofNat 8)))])), (I.mk (some 8) none false (X.v (A.un UnOp.not (O.t 7))))] []) A51_9) A51_10)
def A51 : AC := (AC.seq (AC.reg [.clr [1]] [(I.mk (some 1) none false (X.box (O.t 0))), (I.mk (some 2) none false (X.v (A.mov (O.k (V.bool false)))))] []) A51_8)
def an51 : List An := [{ id := 0, pre := [.clr [1]], ep := [], lin := [], sp := [] }, { id := 5, pre := [.clr [4]], ep := [], lin := [], sp := [] }]
theorem c51 : cC Try.prog Try.f51.ntmps an51 (Try.f51.body.getD .skip) = some A51 := by kernel_rfl
structure H51 (D : Den) (σ : Sig) (F : Nat) : Prop where
  c100 : ∀ (x0 : Int) (x1 : Int) (x2 : Int) r, i_within F x0 x1 x2 = some r → D 100 [Enc.enc x0, Enc.enc x1, Enc.enc x2] = some (Enc.enc (r : Bool))
  g100 : σ 100 = some (0, false)
  c101 : ∀ (x0 : (List Int)) (x1 : (List Int)) r, slices_Compare F x0 x1 = some r → D 101 [Enc.enc x0, Enc.enc x1] = some (Enc.enc (r : Int))
  g101 : σ 101 = some (0, false)
abbrev R51 (r : Bool) : (Nat → V) → Prop := RR Try.prog [.tmp 2] 0 false (Enc.enc (r : Bool))
section
variable {D : Den} {σ : Sig} {F : Nat} {r : Bool}
def i_IsGraph_j1 (F : Nat) (g_1 : (Int × (List (Int × Int)))) (t12_9 : Int) (c1 : Int → Option Bool) (t48_19 : Bool) : Option Bool :=
  bif t48_19 then
    some false
  else
    c1 (w64 (t12_9 + 1))
theorem t_f51_j1 (H : H51 D σ F) (g_1 : (Int × (List (Int × Int)))) (t12_9 : Int) (c1 : Int → Option Bool) (Hc1 : ∀ (t12_9 : Int) (s : Nat → V), Facts [(1, (.ref (.bx 1) 0 [] (.agg [(.int .i64 g_1.1), (Enc.enc (g_1.2 : List (Int × Int)))]))), (2, (.bool false)), (10, (Enc.enc (g_1.2 : List (Int × Int)))), (11, (.int .i64 (g_1.2.length : Int))), (12, (.int .i64 t12_9))] s → c1 t12_9 = some r → Run D σ (R51 r) (.run A51_1 [.lp A51_1, .bk 0, .sq A51_7]) s) (t48_19 : Bool) (s : Nat → V) (hs : Facts [(1, (.ref (.bx 1) 0 [] (.agg [(.int .i64 g_1.1), (Enc.enc (g_1.2 : List (Int × Int)))]))), (2, (.bool false)), (10, (Enc.enc (g_1.2 : List (Int × Int)))), (11, (.int .i64 (g_1.2.length : Int))), (12, (.int .i64 t12_9)), (48, (.bool t48_19))] s) (h : i_IsGraph_j1 F g_1 t12_9 c1 t48_19 = some r) : Run D σ (R51 r) (.nrm [.sq A51_5, .bk 1, .sq A51_6, .lp A51_1, .bk 0, .sq A51_7]) s := by
  unfold i_IsGraph_j1 at h
  obtain ⟨h1, h2, h10, h11, h12, h48⟩ := hs
  refine .nsq ?_
  refine run_cond (t := t48_19) h48 h (fun h => ?_) (fun h => ?_)
  · refine .seq ?_
    refine run_reg ?_
    refine e_end ?_
    refine g_v0 (.bool false) rfl rfl ?_
    refine g_end ?_
    refine e_end ?_
    refine renew [(1, (.ref (.bx 1) 0 [] (.agg [(.int .i64 g_1.1), (Enc.enc (g_1.2 : List (Int × Int)))]))), (2, (.bool false)), (10, (Enc.enc (g_1.2 : List (Int × Int)))), (11, (.int .i64 (g_1.2.length : Int))), (12, (.int .i64 t12_9))] ⟨h1, rfl, h10, h11, h12⟩ ?_
    rintro s ⟨h1, h2, h10, h11, h12⟩
    refine .nsq ?_
    refine .ret ?_
    have hr := Option.some.inj h
    subst hr
    exact rrA (res_tmp h2) rfl
  · refine .skip ?_
    refine .nbk ?_
    refine .nsq ?_
    refine run_reg ?_
    refine e_end ?_
    refine g_v1 (t := 12) (u := (.int .i64 t12_9)) (.int .i64 (w64 (t12_9 + 1))) h12 rfl rfl ?_
    refine g_v1 (t := 49) (u := (.int .i64 (w64 (t12_9 + 1)))) (.int .i64 (w64 (t12_9 + 1))) rfl rfl rfl ?_
    refine g_end ?_
    refine e_end ?_
    refine renew [(1, (.ref (.bx 1) 0 [] (.agg [(.int .i64 g_1.1), (Enc.enc (g_1.2 : List (Int × Int)))]))), (2, (.bool false)), (10, (Enc.enc (g_1.2 : List (Int × Int)))), (11, (.int .i64 (g_1.2.length : Int))), (12, (.int .i64 (w64 (t12_9 + 1))))] ⟨h1, h2, h10, h11, rfl⟩ ?_
    rintro s ⟨h1, h2, h10, h11, h12⟩
    refine .nlp ?_
    exact Hc1 (w64 (t12_9 + 1)) _ ⟨h1, h2, h10, h11, h12⟩ h
def i_IsGraph_l1 (F : Nat) (g_1 : (Int × (List (Int × Int))))  : Nat → Int → Option Bool
  | 0, _ => none
  | k + 1, t12_9 =>
    bif decide (t12_9 < (g_1.2.length : Int)) then
      (idx g_1.2 t12_9).bind fun e_16 =>
      bif decide (e_16.1 < 0) then
        i_IsGraph_j1 F g_1 t12_9 (i_IsGraph_l1 F g_1 k) true
      else
        bif decide (e_16.1 ≥ e_16.2) then
          i_IsGraph_j1 F g_1 t12_9 (i_IsGraph_l1 F g_1 k) true
        else
          bif decide (e_16.2 ≥ g_1.1) then
            i_IsGraph_j1 F g_1 t12_9 (i_IsGraph_l1 F g_1 k) true
          else
            bif decide (t12_9 > 0) then
              (idx g_1.2 (w64 (t12_9 - 1))).bind fun e_20 =>
              (slices_Compare F [e_20.1, e_20.2] [e_16.1, e_16.2]).bind fun r_21 =>
              i_IsGraph_j1 F g_1 t12_9 (i_IsGraph_l1 F g_1 k) (decide (r_21 ≥ 0))
            else
              i_IsGraph_j1 F g_1 t12_9 (i_IsGraph_l1 F g_1 k) false
    else
      some true
theorem t_f51_l1 (H : H51 D σ F) (g_1 : (Int × (List (Int × Int))))  : ∀ (k : Nat) (t12_9 : Int) (s : Nat → V), Facts [(1, (.ref (.bx 1) 0 [] (.agg [(.int .i64 g_1.1), (Enc.enc (g_1.2 : List (Int × Int)))]))), (2, (.bool false)), (10, (Enc.enc (g_1.2 : List (Int × Int)))), (11, (.int .i64 (g_1.2.length : Int))), (12, (.int .i64 t12_9))] s → i_IsGraph_l1 F g_1 k t12_9 = some r → Run D σ (R51 r) (.run A51_1 [.lp A51_1, .bk 0, .sq A51_7]) s := by
  intro k
  induction k with
  | zero => intro t12_9 s _ h; exact nomatch (h : (none : Option _) = some r)
  | succ k ih =>
    intro t12_9 s hs h
    rw [i_IsGraph_l1] at h
    obtain ⟨h1, h2, h10, h11, h12⟩ := hs
    refine .seq ?_
    refine run_reg ?_
    refine e_end ?_
    refine g_v2 (t1 := 12) (t2 := 11) (u1 := (.int .i64 t12_9)) (u2 := (.int .i64 (g_1.2.length : Int))) (.bool (decide (t12_9 < (g_1.2.length : Int)))) h12 h11 rfl rfl ?_
    refine g_end ?_
    refine e_end ?_
    refine renew [(1, (.ref (.bx 1) 0 [] (.agg [(.int .i64 g_1.1), (Enc.enc (g_1.2 : List (Int × Int)))]))), (2, (.bool false)), (10, (Enc.enc (g_1.2 : List (Int × Int)))), (11, (.int .i64 (g_1.2.length : Int))), (12, (.int .i64 t12_9)), (13, (.bool (decide (t12_9 < (g_1.2.length : Int)))))] ⟨h1, h2, h10, h11, h12, rfl⟩ ?_
    rintro s ⟨h1, h2, h10, h11, h12, h13⟩
    refine .nsq ?_
    refine .seq ?_
    refine run_cond (t := decide (t12_9 < (g_1.2.length : Int))) h13 h (fun h => ?_) (fun h => ?_)
    · refine .skip ?_
      refine .nsq ?_
      refine .seq ?_
      refine .block ?_
      refine .seq ?_
      refine run_reg ?_
      refine e_clr ?_
      refine e_end ?_
      refine g_v1 (t := 12) (u := (.int .i64 t12_9)) (.int .i64 t12_9) (keep_clear (s := s) (pk := [4]) h12 rfl rfl) rfl rfl ?_
      obtain ⟨e_16, E_e_16, h⟩ := bind_some h
      refine g_v (.ref .sh 0 [] (.agg [(.int .i64 e_16.1), (.int .i64 e_16.2)])) (ev_idx (t := .sh) (lo := 0) (xs := g_1.2) (keep_clear (s := s) (pk := [4]) h10 rfl (Enc.map_enc _ (g_1.2 : List (Int × Int)))) (keep_clear (s := s) (pk := [4]) h12 rfl rfl) E_e_16 rfl rfl) ?_
      refine g_v1 (t := 15) (u := (.ref .sh 0 [] (.agg [(.int .i64 e_16.1), (.int .i64 e_16.2)]))) (.agg [(.int .i64 e_16.1), (.int .i64 e_16.2)]) rfl rfl rfl ?_
      refine g_alloc (gone_clear (s := s) (pk := [4]) (t := 4) rfl) ?_
      refine g_v1 (t := 14) (u := (.int .i64 t12_9)) (.int .i64 t12_9) rfl rfl rfl ?_
      refine g_store (.agg [(.int .i64 e_16.1), (.int .i64 e_16.2)]) (rd_of rfl rfl) (rd_of rfl rfl) (by refine ⟨by decide, by decide, rfl, rfl, rfl, ?_⟩; first | rfl | simp [V.toks, V.tokss, Enc.toks_enc]) ?_
      refine g_end ?_
      refine e_end ?_
      refine renew [(1, (.ref (.bx 1) 0 [] (.agg [(.int .i64 g_1.1), (Enc.enc (g_1.2 : List (Int × Int)))]))), (2, (.bool false)), (3, (.int .i64 t12_9)), (4, (.ref (.bx 4) 0 [] (.agg [(.int .i64 e_16.1), (.int .i64 e_16.2)]))), (10, (Enc.enc (g_1.2 : List (Int × Int)))), (11, (.int .i64 (g_1.2.length : Int))), (12, (.int .i64 t12_9))] ⟨(keep_mut (keep_clear (s := s) (pk := [4]) h1 rfl (map_bx rfl (map_agg (maps_cons rfl (maps_cons (Enc.map_enc _ (g_1.2 : List (Int × Int))) maps_nil))))) (mut_ref_ne rfl rfl (mut_agg (muts_cons rfl (muts_cons (Enc.mut_enc _ _ _ _ (g_1.2 : List (Int × Int))) rfl))))), (keep_mut (keep_clear (s := s) (pk := [4]) h2 rfl rfl) rfl), (keep_mut rfl rfl), (keep_mut rfl rfl), (keep_mut (keep_clear (s := s) (pk := [4]) h10 rfl (Enc.map_enc _ (g_1.2 : List (Int × Int)))) (Enc.mut_enc _ _ _ _ (g_1.2 : List (Int × Int)))), (keep_mut (keep_clear (s := s) (pk := [4]) h11 rfl rfl) rfl), (keep_mut (keep_clear (s := s) (pk := [4]) h12 rfl rfl) rfl)⟩ ?_
      rintro s ⟨h1, h2, h3, h4, h10, h11, h12⟩
      refine .nsq ?_
      refine .seq ?_
      refine run_reg ?_
      refine e_end ?_
      refine g_v1 (t := 4) (u := (.ref (.bx 4) 0 [] (.agg [(.int .i64 e_16.1), (.int .i64 e_16.2)]))) (.ref (.bx 4) 0 [0] (.int .i64 e_16.1)) h4 rfl rfl ?_
      refine g_v1 (t := 17) (u := (.ref (.bx 4) 0 [0] (.int .i64 e_16.1))) (.int .i64 e_16.1) rfl rfl rfl ?_
      refine g_v1 (t := 18) (u := (.int .i64 e_16.1)) (.bool (decide (e_16.1 < 0))) rfl rfl rfl ?_
      refine g_v1 (t := 19) (u := (.bool (decide (e_16.1 < 0)))) (.bool (decide (e_16.1 < 0))) rfl rfl rfl ?_
      refine split_on (c := decide (e_16.1 < 0)) h (fun hg4 h => ?_) (fun hg4 h => ?_)
      · refine g_no (Eq.trans (b := .bool (decide (e_16.1 < 0))) rfl (congrArg V.bool hg4)) ?_
        refine g_no (Eq.trans (b := .bool (decide (e_16.1 < 0))) rfl (congrArg V.bool hg4)) ?_
        refine g_no (Eq.trans (b := .bool (decide (e_16.1 < 0))) rfl (congrArg V.bool hg4)) ?_
        refine g_no (Eq.trans (b := .bool (decide (e_16.1 < 0))) rfl (congrArg V.bool hg4)) ?_
        refine g_no (Eq.trans (b := .bool (decide (e_16.1 < 0))) rfl (congrArg V.bool hg4)) ?_
        refine g_v2 (t1 := 20) (t2 := 25) (u1 := (.bool true)) (u2 := (.tup [])) (.bool true) (Eq.trans (b := .bool (decide (e_16.1 < 0))) rfl (congrArg V.bool hg4)) rfl rfl rfl ?_
        refine g_v1 (t := 26) (u := (.bool true)) (.bool true) rfl rfl rfl ?_
        refine g_no rfl ?_
        refine g_no rfl ?_
        refine g_no rfl ?_
        refine g_no rfl ?_
        refine g_no rfl ?_
        refine g_v2 (t1 := 27) (t2 := 32) (u1 := (.bool true)) (u2 := (.tup [])) (.bool true) rfl rfl rfl rfl ?_
        refine g_v1 (t := 33) (u := (.bool true)) (.bool true) rfl rfl rfl ?_
        refine g_no rfl ?_
        refine g_no rfl ?_
        refine g_no rfl ?_
        refine g_skip rfl ?_
        refine g_skip rfl ?_
        refine g_skip rfl ?_
        refine g_skip rfl ?_
        refine g_skip rfl ?_
        refine g_skip rfl ?_
        refine g_skip rfl ?_
        refine g_skip rfl ?_
        refine g_skip rfl ?_
        refine g_no rfl ?_
        refine g_v2 (t1 := 34) (t2 := 47) (u1 := (.bool true)) (u2 := (.tup [])) (.bool true) rfl rfl rfl rfl ?_
        refine g_end ?_
        refine e_end ?_
        refine renew [(1, (.ref (.bx 1) 0 [] (.agg [(.int .i64 g_1.1), (Enc.enc (g_1.2 : List (Int × Int)))]))), (2, (.bool false)), (10, (Enc.enc (g_1.2 : List (Int × Int)))), (11, (.int .i64 (g_1.2.length : Int))), (12, (.int .i64 t12_9)), (48, (.bool true))] ⟨h1, h2, h10, h11, h12, rfl⟩ ?_
        rintro s ⟨h1, h2, h10, h11, h12, h48⟩
        exact t_f51_j1 H g_1 t12_9 (i_IsGraph_l1 F g_1 k) ih true _ ⟨h1, h2, h10, h11, h12, h48⟩ h
      · refine g_yes (Eq.trans (b := .bool (decide (e_16.1 < 0))) rfl (congrArg V.bool hg4)) (g_v1 (t := 4) (u := (.ref (.bx 4) 0 [] (.agg [(.int .i64 e_16.1), (.int .i64 e_16.2)]))) (.ref (.bx 4) 0 [0] (.int .i64 e_16.1)) h4 rfl rfl ?_)
        refine g_yes (Eq.trans (b := .bool (decide (e_16.1 < 0))) rfl (congrArg V.bool hg4)) (g_v1 (t := 21) (u := (.ref (.bx 4) 0 [0] (.int .i64 e_16.1))) (.int .i64 e_16.1) rfl rfl rfl ?_)
        refine g_yes (Eq.trans (b := .bool (decide (e_16.1 < 0))) rfl (congrArg V.bool hg4)) (g_v1 (t := 4) (u := (.ref (.bx 4) 0 [] (.agg [(.int .i64 e_16.1), (.int .i64 e_16.2)]))) (.ref (.bx 4) 0 [1] (.int .i64 e_16.2)) h4 rfl rfl ?_)
        refine g_yes (Eq.trans (b := .bool (decide (e_16.1 < 0))) rfl (congrArg V.bool hg4)) (g_v1 (t := 23) (u := (.ref (.bx 4) 0 [1] (.int .i64 e_16.2))) (.int .i64 e_16.2) rfl rfl rfl ?_)
        refine g_yes (Eq.trans (b := .bool (decide (e_16.1 < 0))) rfl (congrArg V.bool hg4)) (g_v2 (t1 := 22) (t2 := 24) (u1 := (.int .i64 e_16.1)) (u2 := (.int .i64 e_16.2)) (.bool (decide (e_16.1 ≥ e_16.2))) rfl rfl rfl rfl ?_)
        refine g_v2 (t1 := 20) (t2 := 25) (u1 := (.bool false)) (u2 := (.bool (decide (e_16.1 ≥ e_16.2)))) (.bool (decide (e_16.1 ≥ e_16.2))) (Eq.trans (b := .bool (decide (e_16.1 < 0))) rfl (congrArg V.bool hg4)) rfl rfl rfl ?_
        refine g_v1 (t := 26) (u := (.bool (decide (e_16.1 ≥ e_16.2)))) (.bool (decide (e_16.1 ≥ e_16.2))) rfl rfl rfl ?_
        refine split_on (c := decide (e_16.1 ≥ e_16.2)) h (fun hg11 h => ?_) (fun hg11 h => ?_)
        · refine g_no (Eq.trans (b := .bool (decide (e_16.1 ≥ e_16.2))) rfl (congrArg V.bool hg11)) ?_
          refine g_no (Eq.trans (b := .bool (decide (e_16.1 ≥ e_16.2))) rfl (congrArg V.bool hg11)) ?_
          refine g_no (Eq.trans (b := .bool (decide (e_16.1 ≥ e_16.2))) rfl (congrArg V.bool hg11)) ?_
          refine g_no (Eq.trans (b := .bool (decide (e_16.1 ≥ e_16.2))) rfl (congrArg V.bool hg11)) ?_
          refine g_no (Eq.trans (b := .bool (decide (e_16.1 ≥ e_16.2))) rfl (congrArg V.bool hg11)) ?_
          refine g_v2 (t1 := 27) (t2 := 32) (u1 := (.bool true)) (u2 := (.tup [])) (.bool true) (Eq.trans (b := .bool (decide (e_16.1 ≥ e_16.2))) rfl (congrArg V.bool hg11)) rfl rfl rfl ?_
          refine g_v1 (t := 33) (u := (.bool true)) (.bool true) rfl rfl rfl ?_
          refine g_no rfl ?_
          refine g_no rfl ?_
          refine g_no rfl ?_
          refine g_skip rfl ?_
          refine g_skip rfl ?_
          refine g_skip rfl ?_
          refine g_skip rfl ?_
          refine g_skip rfl ?_
          refine g_skip rfl ?_
          refine g_skip rfl ?_
          refine g_skip rfl ?_
          refine g_skip rfl ?_
          refine g_no rfl ?_
          refine g_v2 (t1 := 34) (t2 := 47) (u1 := (.bool true)) (u2 := (.tup [])) (.bool true) rfl rfl rfl rfl ?_
          refine g_end ?_
          refine e_end ?_
          refine renew [(1, (.ref (.bx 1) 0 [] (.agg [(.int .i64 g_1.1), (Enc.enc (g_1.2 : List (Int × Int)))]))), (2, (.bool false)), (10, (Enc.enc (g_1.2 : List (Int × Int)))), (11, (.int .i64 (g_1.2.length : Int))), (12, (.int .i64 t12_9)), (48, (.bool true))] ⟨h1, h2, h10, h11, h12, rfl⟩ ?_
          rintro s ⟨h1, h2, h10, h11, h12, h48⟩
          exact t_f51_j1 H g_1 t12_9 (i_IsGraph_l1 F g_1 k) ih true _ ⟨h1, h2, h10, h11, h12, h48⟩ h
        · refine g_yes (Eq.trans (b := .bool (decide (e_16.1 ≥ e_16.2))) rfl (congrArg V.bool hg11)) (g_v1 (t := 4) (u := (.ref (.bx 4) 0 [] (.agg [(.int .i64 e_16.1), (.int .i64 e_16.2)]))) (.ref (.bx 4) 0 [1] (.int .i64 e_16.2)) h4 rfl rfl ?_)
          refine g_yes (Eq.trans (b := .bool (decide (e_16.1 ≥ e_16.2))) rfl (congrArg V.bool hg11)) (g_v1 (t := 28) (u := (.ref (.bx 4) 0 [1] (.int .i64 e_16.2))) (.int .i64 e_16.2) rfl rfl rfl ?_)
          refine g_yes (Eq.trans (b := .bool (decide (e_16.1 ≥ e_16.2))) rfl (congrArg V.bool hg11)) (g_v1 (t := 1) (u := (.ref (.bx 1) 0 [] (.agg [(.int .i64 g_1.1), (Enc.enc (g_1.2 : List (Int × Int)))]))) (.ref (.bx 1) 0 [0] (.int .i64 g_1.1)) h1 rfl rfl ?_)
          refine g_yes (Eq.trans (b := .bool (decide (e_16.1 ≥ e_16.2))) rfl (congrArg V.bool hg11)) (g_v1 (t := 30) (u := (.ref (.bx 1) 0 [0] (.int .i64 g_1.1))) (.int .i64 g_1.1) rfl rfl rfl ?_)
          refine g_yes (Eq.trans (b := .bool (decide (e_16.1 ≥ e_16.2))) rfl (congrArg V.bool hg11)) (g_v2 (t1 := 29) (t2 := 31) (u1 := (.int .i64 e_16.2)) (u2 := (.int .i64 g_1.1)) (.bool (decide (e_16.2 ≥ g_1.1))) rfl rfl rfl rfl ?_)
          refine g_v2 (t1 := 27) (t2 := 32) (u1 := (.bool false)) (u2 := (.bool (decide (e_16.2 ≥ g_1.1)))) (.bool (decide (e_16.2 ≥ g_1.1))) (Eq.trans (b := .bool (decide (e_16.1 ≥ e_16.2))) rfl (congrArg V.bool hg11)) rfl rfl rfl ?_
          refine g_v1 (t := 33) (u := (.bool (decide (e_16.2 ≥ g_1.1)))) (.bool (decide (e_16.2 ≥ g_1.1))) rfl rfl rfl ?_
          refine split_on (c := decide (e_16.2 ≥ g_1.1)) h (fun hg18 h => ?_) (fun hg18 h => ?_)
          · refine g_no (Eq.trans (b := .bool (decide (e_16.2 ≥ g_1.1))) rfl (congrArg V.bool hg18)) ?_
            refine g_no (Eq.trans (b := .bool (decide (e_16.2 ≥ g_1.1))) rfl (congrArg V.bool hg18)) ?_
            refine g_no (Eq.trans (b := .bool (decide (e_16.2 ≥ g_1.1))) rfl (congrArg V.bool hg18)) ?_
            refine g_skip rfl ?_
            refine g_skip rfl ?_
            refine g_skip rfl ?_
            refine g_skip rfl ?_
            refine g_skip rfl ?_
            refine g_skip rfl ?_
            refine g_skip rfl ?_
            refine g_skip rfl ?_
            refine g_skip rfl ?_
            refine g_no (Eq.trans (b := .bool (decide (e_16.2 ≥ g_1.1))) rfl (congrArg V.bool hg18)) ?_
            refine g_v2 (t1 := 34) (t2 := 47) (u1 := (.bool true)) (u2 := (.tup [])) (.bool true) (Eq.trans (b := .bool (decide (e_16.2 ≥ g_1.1))) rfl (congrArg V.bool hg18)) rfl rfl rfl ?_
            refine g_end ?_
            refine e_end ?_
            refine renew [(1, (.ref (.bx 1) 0 [] (.agg [(.int .i64 g_1.1), (Enc.enc (g_1.2 : List (Int × Int)))]))), (2, (.bool false)), (10, (Enc.enc (g_1.2 : List (Int × Int)))), (11, (.int .i64 (g_1.2.length : Int))), (12, (.int .i64 t12_9)), (48, (.bool true))] ⟨h1, h2, h10, h11, h12, rfl⟩ ?_
            rintro s ⟨h1, h2, h10, h11, h12, h48⟩
            exact t_f51_j1 H g_1 t12_9 (i_IsGraph_l1 F g_1 k) ih true _ ⟨h1, h2, h10, h11, h12, h48⟩ h
          · refine g_yes (Eq.trans (b := .bool (decide (e_16.2 ≥ g_1.1))) rfl (congrArg V.bool hg18)) (g_v1 (t := 3) (u := (.int .i64 t12_9)) (.int .i64 t12_9) h3 rfl rfl ?_)
            refine g_yes (Eq.trans (b := .bool (decide (e_16.2 ≥ g_1.1))) rfl (congrArg V.bool hg18)) (g_v1 (t := 35) (u := (.int .i64 t12_9)) (.bool (decide (t12_9 > 0))) rfl rfl rfl ?_)
            refine g_yes (Eq.trans (b := .bool (decide (e_16.2 ≥ g_1.1))) rfl (congrArg V.bool hg18)) (g_v1 (t := 36) (u := (.bool (decide (t12_9 > 0)))) (.bool (decide (t12_9 > 0))) rfl rfl rfl ?_)
            refine split_on (c := decide (t12_9 > 0)) h (fun hg21 h => ?_) (fun hg21 h => ?_)
            · refine g_yes (Eq.trans (b := .bool (decide (t12_9 > 0))) rfl (congrArg V.bool hg21)) (g_v1 (t := 1) (u := (.ref (.bx 1) 0 [] (.agg [(.int .i64 g_1.1), (Enc.enc (g_1.2 : List (Int × Int)))]))) (.ref (.bx 1) 0 [1] (Enc.enc (g_1.2 : List (Int × Int)))) h1 rfl rfl ?_)
              refine g_yes (Eq.trans (b := .bool (decide (t12_9 > 0))) rfl (congrArg V.bool hg21)) (g_v1 (t := 38) (u := (.ref (.bx 1) 0 [1] (Enc.enc (g_1.2 : List (Int × Int))))) (Enc.enc (g_1.2 : List (Int × Int))) rfl rfl rfl ?_)
              refine g_yes (Eq.trans (b := .bool (decide (t12_9 > 0))) rfl (congrArg V.bool hg21)) (g_v1 (t := 3) (u := (.int .i64 t12_9)) (.int .i64 t12_9) h3 rfl rfl ?_)
              refine g_yes (Eq.trans (b := .bool (decide (t12_9 > 0))) rfl (congrArg V.bool hg21)) (g_v1 (t := 40) (u := (.int .i64 t12_9)) (.int .i64 (w64 (t12_9 - 1))) rfl rfl rfl ?_)
              obtain ⟨e_20, E_e_20, h⟩ := bind_some h
              refine g_yes (Eq.trans (b := .bool (decide (t12_9 > 0))) rfl (congrArg V.bool hg21)) (g_v (.ref .sh 0 [] (.agg [(.int .i64 e_20.1), (.int .i64 e_20.2)])) (ev_idx (t := .sh) (lo := 0) (xs := g_1.2) rfl rfl E_e_20 rfl rfl) ?_)
              refine g_yes (Eq.trans (b := .bool (decide (t12_9 > 0))) rfl (congrArg V.bool hg21)) (g_v1 (t := 42) (u := (.ref .sh 0 [] (.agg [(.int .i64 e_20.1), (.int .i64 e_20.2)]))) (Enc.enc ([e_20.1, e_20.2] : List Int)) rfl rfl rfl ?_)
              refine g_yes (Eq.trans (b := .bool (decide (t12_9 > 0))) rfl (congrArg V.bool hg21)) (g_v1 (t := 4) (u := (.ref (.bx 4) 0 [] (.agg [(.int .i64 e_16.1), (.int .i64 e_16.2)]))) (encO (.bx 4) (.of ([e_16.1, e_16.2] : List Int))) h4 rfl rfl ?_)
              obtain ⟨r_21, E_r_21, h⟩ := bind_some h
              refine g_yes (Eq.trans (b := .bool (decide (t12_9 > 0))) rfl (congrArg V.bool hg21)) (g_call (m := 0) (al := false) (r := (Enc.enc (r_21 : Int))) [Enc.enc ([e_20.1, e_20.2] : (List Int)), Enc.enc ([e_16.1, e_16.2] : (List Int))] (ta_cons (v := (Enc.enc ([e_20.1, e_20.2] : List Int))) rfl rfl (Enc.erase_enc ([e_20.1, e_20.2] : (List Int))) (ta_cons (v := (encO (.bx 4) (.of ([e_16.1, e_16.2] : List Int)))) rfl rfl (erase_encO (o := .of [e_16.1, e_16.2])) ta_nil)) (H.c101 _ _ _ E_r_21) H.g101 rfl rfl rfl rfl ?_)
              refine g_yes (Eq.trans (b := .bool (decide (t12_9 > 0))) rfl (congrArg V.bool hg21)) (g_v1 (t := 45) (u := (.int .i64 r_21)) (.bool (decide (r_21 ≥ 0))) rfl rfl rfl ?_)
              refine g_yes (Eq.trans (b := .bool (decide (e_16.2 ≥ g_1.1))) rfl (congrArg V.bool hg18)) (g_v2 (t1 := 37) (t2 := 46) (u1 := (.bool true)) (u2 := (.bool (decide (r_21 ≥ 0)))) (.bool (decide (r_21 ≥ 0))) (Eq.trans (b := .bool (decide (t12_9 > 0))) rfl (congrArg V.bool hg21)) rfl rfl rfl ?_)
              refine g_v2 (t1 := 34) (t2 := 47) (u1 := (.bool false)) (u2 := (.bool (decide (r_21 ≥ 0)))) (.bool (decide (r_21 ≥ 0))) (Eq.trans (b := .bool (decide (e_16.2 ≥ g_1.1))) rfl (congrArg V.bool hg18)) rfl rfl rfl ?_
              refine g_end ?_
              refine e_end ?_
              refine renew [(1, (.ref (.bx 1) 0 [] (.agg [(.int .i64 g_1.1), (Enc.enc (g_1.2 : List (Int × Int)))]))), (2, (.bool false)), (10, (Enc.enc (g_1.2 : List (Int × Int)))), (11, (.int .i64 (g_1.2.length : Int))), (12, (.int .i64 t12_9)), (48, (.bool (decide (r_21 ≥ 0))))] ⟨h1, h2, h10, h11, h12, rfl⟩ ?_
              rintro s ⟨h1, h2, h10, h11, h12, h48⟩
              exact t_f51_j1 H g_1 t12_9 (i_IsGraph_l1 F g_1 k) ih (decide (r_21 ≥ 0)) _ ⟨h1, h2, h10, h11, h12, h48⟩ h
            · refine g_no (Eq.trans (b := .bool (decide (t12_9 > 0))) rfl (congrArg V.bool hg21)) ?_
              refine g_no (Eq.trans (b := .bool (decide (t12_9 > 0))) rfl (congrArg V.bool hg21)) ?_
              refine g_no (Eq.trans (b := .bool (decide (t12_9 > 0))) rfl (congrArg V.bool hg21)) ?_
              refine g_no (Eq.trans (b := .bool (decide (t12_9 > 0))) rfl (congrArg V.bool hg21)) ?_
              refine g_no (Eq.trans (b := .bool (decide (t12_9 > 0))) rfl (congrArg V.bool hg21)) ?_
              refine g_no (Eq.trans (b := .bool (decide (t12_9 > 0))) rfl (congrArg V.bool hg21)) ?_
              refine g_no (Eq.trans (b := .bool (decide (t12_9 > 0))) rfl (congrArg V.bool hg21)) ?_
              refine g_no (Eq.trans (b := .bool (decide (t12_9 > 0))) rfl (congrArg V.bool hg21)) ?_
              refine g_no (Eq.trans (b := .bool (decide (t12_9 > 0))) rfl (congrArg V.bool hg21)) ?_
              refine g_yes (Eq.trans (b := .bool (decide (e_16.2 ≥ g_1.1))) rfl (congrArg V.bool hg18)) (g_v2 (t1 := 37) (t2 := 46) (u1 := (.bool false)) (u2 := (.tup [])) (.bool false) (Eq.trans (b := .bool (decide (t12_9 > 0))) rfl (congrArg V.bool hg21)) rfl rfl rfl ?_)
              refine g_v2 (t1 := 34) (t2 := 47) (u1 := (.bool false)) (u2 := (.bool false)) (.bool false) (Eq.trans (b := .bool (decide (e_16.2 ≥ g_1.1))) rfl (congrArg V.bool hg18)) rfl rfl rfl ?_
              refine g_end ?_
              refine e_end ?_
              refine renew [(1, (.ref (.bx 1) 0 [] (.agg [(.int .i64 g_1.1), (Enc.enc (g_1.2 : List (Int × Int)))]))), (2, (.bool false)), (10, (Enc.enc (g_1.2 : List (Int × Int)))), (11, (.int .i64 (g_1.2.length : Int))), (12, (.int .i64 t12_9)), (48, (.bool false))] ⟨h1, h2, h10, h11, h12, rfl⟩ ?_
              rintro s ⟨h1, h2, h10, h11, h12, h48⟩
              exact t_f51_j1 H g_1 t12_9 (i_IsGraph_l1 F g_1 k) ih false _ ⟨h1, h2, h10, h11, h12, h48⟩ h
    · refine .exit ?_
      refine .esq ?_
      refine .elp ?_
      refine .ebk ?_
      refine .nsq ?_
      refine .seq ?_
      refine run_reg ?_
      refine e_end ?_
      refine g_v0 (.bool true) rfl rfl ?_
      refine g_end ?_
      refine e_end ?_
      refine renew [(2, (.bool true))] rfl ?_
      rintro s h2
      refine .nsq ?_
      refine .ret ?_
      have hr := Option.some.inj h
      subst hr
      exact rrA (res_tmp h2) rfl
def i_IsGraph (F : Nat) (g_1 : (Int × (List (Int × Int)))) : Option Bool :=
  (i_within F g_1.1 0 8).bind fun r_2 =>
  bif (!r_2) then
    some false
  else
    i_IsGraph_l1 F g_1 F 0
theorem t51 (H : H51 D σ F) (g_1 : (Int × (List (Int × Int)))) (s : Nat → V) (hs : Facts [(0, (.agg [(.int .i64 g_1.1), (Enc.enc (g_1.2 : List (Int × Int)))]))] s) (h : i_IsGraph F g_1 = some r) : Run D σ (R51 r) (.run A51 []) s := by
  unfold i_IsGraph at h
  have h0 := hs
  refine .seq ?_
  refine run_reg ?_
  refine e_clr ?_
  refine e_end ?_
  refine g_box (.agg [(.int .i64 g_1.1), (Enc.enc (g_1.2 : List (Int × Int)))]) (rd_of (keep_clear (s := s) (pk := [1]) h0 rfl (map_agg (maps_cons rfl (maps_cons (Enc.map_enc _ (g_1.2 : List (Int × Int))) maps_nil)))) rfl) (gone_clear (s := s) (pk := [1]) (t := 1) rfl) rfl ?_
  refine g_v0 (.bool false) rfl rfl ?_
  refine g_end ?_
  refine e_end ?_
  refine renew [(1, (.ref (.bx 1) 0 [] (.agg [(.int .i64 g_1.1), (Enc.enc (g_1.2 : List (Int × Int)))]))), (2, (.bool false))] ⟨rfl, rfl⟩ ?_
  rintro s ⟨h1, h2⟩
  refine .nsq ?_
  refine .seq ?_
  refine .seq ?_
  refine run_reg ?_
  refine e_end ?_
  refine g_v1 (t := 1) (u := (.ref (.bx 1) 0 [] (.agg [(.int .i64 g_1.1), (Enc.enc (g_1.2 : List (Int × Int)))]))) (.ref (.bx 1) 0 [0] (.int .i64 g_1.1)) h1 rfl rfl ?_
  refine g_v1 (t := 5) (u := (.ref (.bx 1) 0 [0] (.int .i64 g_1.1))) (.int .i64 g_1.1) rfl rfl rfl ?_
  obtain ⟨r_2, E_r_2, h⟩ := bind_some h
  refine g_call (m := 0) (al := false) (r := (Enc.enc (r_2 : Bool))) [Enc.enc (g_1.1 : Int), Enc.enc (0 : Int), Enc.enc (8 : Int)] (ta_cons (v := (.int .i64 g_1.1)) rfl rfl rfl (ta_cons (v := (.int .i64 0)) rfl rfl rfl (ta_cons (v := (.int .i64 8)) rfl rfl rfl ta_nil))) (H.c100 _ _ _ _ E_r_2) H.g100 rfl rfl rfl rfl ?_
  refine g_v1 (t := 7) (u := (.bool r_2)) (.bool (!r_2)) rfl rfl rfl ?_
  refine g_end ?_
  refine e_end ?_
  refine renew [(1, (.ref (.bx 1) 0 [] (.agg [(.int .i64 g_1.1), (Enc.enc (g_1.2 : List (Int × Int)))]))), (2, (.bool false)), (8, (.bool (!r_2)))] ⟨h1, h2, rfl⟩ ?_
  rintro s ⟨h1, h2, h8⟩
  refine .nsq ?_
  refine run_cond (t := (!r_2)) h8 h (fun h => ?_) (fun h => ?_)
  · refine .seq ?_
    refine run_reg ?_
    refine e_end ?_
    refine g_v0 (.bool false) rfl rfl ?_
    refine g_end ?_
    refine e_end ?_
    refine renew [(1, (.ref (.bx 1) 0 [] (.agg [(.int .i64 g_1.1), (Enc.enc (g_1.2 : List (Int × Int)))]))), (2, (.bool false))] ⟨h1, rfl⟩ ?_
    rintro s ⟨h1, h2⟩
    refine .nsq ?_
    refine .ret ?_
    have hr := Option.some.inj h
    subst hr
    exact rrA (res_tmp h2) rfl
  · refine .skip ?_
    refine .nsq ?_
    refine .seq ?_
    refine .seq ?_
    refine run_reg ?_
    refine e_end ?_
    refine g_v1 (t := 1) (u := (.ref (.bx 1) 0 [] (.agg [(.int .i64 g_1.1), (Enc.enc (g_1.2 : List (Int × Int)))]))) (.ref (.bx 1) 0 [1] (Enc.enc (g_1.2 : List (Int × Int)))) h1 rfl rfl ?_
    refine g_v1 (t := 9) (u := (.ref (.bx 1) 0 [1] (Enc.enc (g_1.2 : List (Int × Int))))) (Enc.enc (g_1.2 : List (Int × Int))) rfl rfl rfl ?_
    refine g_v (.int .i64 (g_1.2.length : Int)) (ev_len (xs := g_1.2) rfl) ?_
    refine g_v0 (.int .i64 0) rfl rfl ?_
    refine g_end ?_
    refine e_end ?_
    refine renew [(1, (.ref (.bx 1) 0 [] (.agg [(.int .i64 g_1.1), (Enc.enc (g_1.2 : List (Int × Int)))]))), (2, (.bool false)), (10, (Enc.enc (g_1.2 : List (Int × Int)))), (11, (.int .i64 (g_1.2.length : Int))), (12, (.int .i64 0))] ⟨h1, h2, rfl, rfl, rfl⟩ ?_
    rintro s ⟨h1, h2, h10, h11, h12⟩
    refine .nsq ?_
    refine .block ?_
    refine .loop ?_
    exact t_f51_l1 H g_1 F 0 _ ⟨h1, h2, h10, h11, h12⟩ h
end
def e51 (F : Nat) : Ent := ⟨51, da (fun (x : ((Int × (List (Int × Int))) × Unit)) => i_IsGraph F x.1) (fun (r : Bool) => (Enc.enc (r : Bool))), 0, false, selF []⟩
theorem p51 {F : Nat} {x0 : (Int × (List (Int × Int)))} {r : Bool} (h : i_IsGraph F x0 = some r) : (e51 F).den [Enc.enc x0] = some (Enc.enc (r : Bool)) := da_put (f := fun (x : ((Int × (List (Int × Int))) × Unit)) => i_IsGraph F x.1) (t := fun (r : Bool) => (Enc.enc (r : Bool))) (x0, ()) h
theorem o51 {D : Den} {σ : Sig} {F : Nat} (hF : Fits2 Try.prog D σ) (H : H51 D σ F) : (e51 F).Ok Try.prog := by
  refine ok_of (f := 51) (show unk 51 = 51 from rfl) (fun args r h => ?_) ⟨Try.f51, Try.func51, rfl, rfl⟩
  obtain ⟨⟨x0, _⟩, y, rfl, hy, rfl⟩ := da_open h
  exact contract_run hF (by kernel_rfl) Try.func51 rfl c51 (show 1 ≤ Try.f51.ntmps by decide) (t51 H x0 _ rfl hy)
/- loop.example/g01109/impl.netOf -/
def A52_5 : AC := (AC.reg [] [(I.mk (some 28) none false (X.v (A.fld (O.t 3) 0 0))), (I.mk (some 29) none false (X.v (A.load Sh.p (O.t 28)))), (I.mk (some 30) none false (X.v (A.idxA (O.t 5) (O.k (V.int IntKind.i64 (Int.ofNat 1))) 2 1))), (I.mk (some 31) none false (X.v (A.load Sh.s (O.t 30)))), (I.mk (some 32) none false (X.v (A.idx (O.t 29) (O.t 31) 1))), (I.mk (some 33) none false (X.v (A.load Sh.s (O.t 32)))), (I.mk (some 34) none false (X.v (A.idxA (O.t 5) (O.k (V.int IntKind.i64 (Int.ofNat 0))) 2 1))), (I.mk (some 35) none false (X.v (A.load Sh.s (O.t 34)))), (I.mk (some 36) none false (X.v (A.bin BinOp.shl (O.k (V.int IntKind.i64 (Int.ofNat 1))) (O.t 35)))), (I.mk (some 37) none false (X.v (A.bin BinOp.or (O.t 33) (O.t 36)))), (I.mk (some 38) none false (X.v (A.idx (O.t 29) (O.t 31) 1))), (I.mk none none false (X.store Sh.s (O.t 38) (O.t 37)))] [])
def A52_4 : AC := (AC.seq (AC.reg [] [(I.mk (some 17) none false (X.v (A.fld (O.t 3) 0 0))), (I.mk (some 18) none false (X.v (A.load Sh.p (O.t 17)))), (I.mk (some 19) none false (X.v (A.idxA (O.t 5) (O.k (V.int IntKind.i64 (Int.ofNat 0))) 2 1))), (I.mk (some 20) none false (X.v (A.load Sh.s (O.t 19)))), (I.mk (some 21) none false (X.v (A.idx (O.t 18) (O.t 20) 1))), (I.mk (some 22) none false (X.v (A.load Sh.s (O.t 21)))), (I.mk (some 23) none false (X.v (A.idxA (O.t 5) (O.k (V.int IntKind.i64 (Int.ofNat 1))) 2 1))), (I.mk (some 24) none false (X.v (A.load Sh.s (O.t 23)))), (I.mk (some 25) none false (X.v (A.bin BinOp.shl (O.k (V.int IntKind.i64 (Int.ofNat 1))) (O.t 24)))), (I.mk (some 26) none false (X.v (A.bin BinOp.or (O.t 22) (O.t 25)))), (I.mk (some 27) none false (X.v (A.idx (O.t 18) (O.t 20) 1))), (I.mk none none false (X.store Sh.s (O.t 27) (O.t 26)))] []) A52_5)
def A52_6 : AC := (AC.reg [] [(I.mk (some 39) none false (X.v (A.bin BinOp.add (O.t 13) (O.k (V.int IntKind.i64 (Int.ofNat 1)))))), (I.mk (some 13) none false (X.v (A.mov (O.t 39))))] [])
def A52_3 : AC := (AC.seq (AC.block 1 (AC.seq (AC.reg [.clr [5]] [(I.mk (some 15) none false (X.v (A.idx (O.t 11) (O.t 13) 2))), (I.mk (some 16) none false (X.v (A.load (Sh.ag [Sh.s, Sh.s]) (O.t 15)))), (I.mk (some 5) none false (X.alloc (V.agg [(V.int IntKind.i64 (Int.ofNat 0)), (V.int IntKind.i64 (Int.ofNat 0))]))), (I.mk none none false (X.store (Sh.ag [Sh.s, Sh.s]) (O.t 5) (O.t 16)))] []) A52_4)) A52_6)
def A52_2 : AC := (AC.seq (AC.cond (O.t 14) AC.skip (AC.exit 0)) A52_3)
def A52_1 : AC := (AC.seq (AC.reg [] [(I.mk (some 14) none false (X.v (A.bin BinOp.lss (O.t 13) (O.t 12))))] []) A52_2)
def A52_7 : AC := (AC.seq (AC.reg [] [(I.mk (some 40) none false (X.v (A.load (Sh.ag [Sh.p]) (O.t 3)))), (I.mk none none false (X.store (Sh.ag [Sh.p]) (O.t 2) (O.t 40)))] []) AC.ret)
def A52_10 : AC := (AC.block 0 (AC.loop A52_1))
def A52_9 : AC := (AC.seq (AC.seq (AC.reg [] [(I.mk (some 10) none false (X.v (A.fld (O.t 1) 1 1))), (I.mk (some 11) none false (X.v (A.load Sh.p (O.t 10)))), (I.mk (some 12) none false (X.v (A.len (O.t 11)))), (I.mk (some 13) none false (X.v (A.mov (O.k (V.int IntKind.i64 (Int.ofNat 0))))))] []) A52_10) A52_7)
def A52_8 : AC := (AC.seq (AC.reg [.clr [8, 3]] [(I.mk (some 6) none false (X.v (A.fld (O.t 1) 0 0))), (I.mk (some 7) none false (X.v (A.load Sh.s (O.t 6)))), (I.mk (some 8) none false (X.mk (O.t 7) (V.int IntKind.i64 (Int.ofNat 0)))), (I.mk (some 9) none false (X.v (A.bld (V.agg [(V.sl Tok.nl Sh.s 0 [])]) [(0, 0, (O.t 8))]))), (I.mk (some 3) none false (X.alloc (V.agg [(V.sl Tok.nl Sh.s 0 [])]))), (I.mk none none false (X.store (Sh.ag [Sh.p]) (O.t 3) (O.t 9)))] []) A52_9)
def A52 : AC := (AC.seq (AC.reg [.clr [1, 2]] [(I.mk (some 1) none false (X.box (O.t 0))), (I.mk (some 2) none false (X.alloc (V.agg [(V.sl Tok.nl Sh.s 0 [])])))] []) A52_8)
def an52 : List An := [{ id := 0, pre := [.clr [1, 2]], ep := [], lin := [], sp := [] }, { id := 1, pre := [.clr [8, 3]], ep := [], lin := [], sp := [] }, { id := 4, pre := [.clr [5]], ep := [], lin := [], sp := [] }]
theorem c52 : cC Try.prog Try.f52.ntmps an52 (Try.f52.body.getD .skip) = some A52 := by kernel_rfl
structure H52 (D : Den) (σ : Sig) (F : Nat) : Prop where
  mk ::
abbrev R52 (r : (S1 (List Int))) : (Nat → V) → Prop := RR Try.prog [.cell 2 48] 0 false (Enc.enc (r : (S1 (List Int))))
section
variable {D : Den} {σ : Sig} {F : Nat} {r : (S1 (List Int))}
def i_netOf_l1 (F : Nat) (g_1 : (Int × (List (Int × Int))))  : Nat → (List Int) → Int → Option (S1 (List Int))
  | 0, _, _ => none
  | k + 1, w_10, t13_11 =>
    bif decide (t13_11 < (g_1.2.length : Int)) then
      (idx g_1.2 t13_11).bind fun e_19 =>
      (idx w_10 e_19.1).bind fun e_20 =>
      (shlI .i64 1 e_19.2).bind fun q_21 =>
      (idx w_10 e_19.1).bind fun e_22 =>
      (idx (w_10.set e_19.1.toNat (ior .i64 e_20 q_21)) e_19.2).bind fun e_23 =>
      (shlI .i64 1 e_19.1).bind fun q_24 =>
      (idx (w_10.set e_19.1.toNat (ior .i64 e_20 q_21)) e_19.2).bind fun e_25 =>
      (i_netOf_l1 F g_1 k) ((w_10.set e_19.1.toNat (ior .i64 e_20 q_21)).set e_19.2.toNat (ior .i64 e_23 q_24)) (w64 (t13_11 + 1))
    else
      some (S1.mk w_10)
theorem t_f52_l1 (H : H52 D σ F) (g_1 : (Int × (List (Int × Int))))  : ∀ (k : Nat) (w_10 : (List Int)) (t13_11 : Int) (s : Nat → V), Facts [(2, (.ref (.bx 2) 0 [] (.agg [(.sl .nl (Enc.shp Int) 0 [])]))), (3, (.ref (.bx 3) 0 [] (.agg [(encO (.at 8 []) (.of (w_10 : List Int)))]))), (11, (Enc.enc (g_1.2 : List (Int × Int)))), (12, (.int .i64 (g_1.2.length : Int))), (13, (.int .i64 t13_11))] s → i_netOf_l1 F g_1 k w_10 t13_11 = some r → Run D σ (R52 r) (.run A52_1 [.lp A52_1, .bk 0, .sq A52_7]) s := by
  intro k
  induction k with
  | zero => intro w_10 t13_11 s _ h; exact nomatch (h : (none : Option _) = some r)
  | succ k ih =>
    intro w_10 t13_11 s hs h
    rw [i_netOf_l1] at h
    obtain ⟨h2, h3, h11, h12, h13⟩ := hs
    refine .seq ?_
    refine run_reg ?_
    refine e_end ?_
    refine g_v2 (t1 := 13) (t2 := 12) (u1 := (.int .i64 t13_11)) (u2 := (.int .i64 (g_1.2.length : Int))) (.bool (decide (t13_11 < (g_1.2.length : Int)))) h13 h12 rfl rfl ?_
    refine g_end ?_
    refine e_end ?_
    refine renew [(2, (.ref (.bx 2) 0 [] (.agg [(.sl .nl (Enc.shp Int) 0 [])]))), (3, (.ref (.bx 3) 0 [] (.agg [(encO (.at 8 []) (.of (w_10 : List Int)))]))), (11, (Enc.enc (g_1.2 : List (Int × Int)))), (12, (.int .i64 (g_1.2.length : Int))), (13, (.int .i64 t13_11)), (14, (.bool (decide (t13_11 < (g_1.2.length : Int)))))] ⟨h2, h3, h11, h12, h13, rfl⟩ ?_
    rintro s ⟨h2, h3, h11, h12, h13, h14⟩
    refine .nsq ?_
    refine .seq ?_
    refine run_cond (t := decide (t13_11 < (g_1.2.length : Int))) h14 h (fun h => ?_) (fun h => ?_)
    · refine .skip ?_
      refine .nsq ?_
      refine .seq ?_
      refine .block ?_
      refine .seq ?_
      refine run_reg ?_
      refine e_clr ?_
      refine e_end ?_
      obtain ⟨e_19, E_e_19, h⟩ := bind_some h
      refine g_v (.ref .sh 0 [] (.agg [(.int .i64 e_19.1), (.int .i64 e_19.2)])) (ev_idx (t := .sh) (lo := 0) (xs := g_1.2) (keep_clear (s := s) (pk := [5]) h11 rfl (Enc.map_enc _ (g_1.2 : List (Int × Int)))) (keep_clear (s := s) (pk := [5]) h13 rfl rfl) E_e_19 rfl rfl) ?_
      refine g_v1 (t := 15) (u := (.ref .sh 0 [] (.agg [(.int .i64 e_19.1), (.int .i64 e_19.2)]))) (.agg [(.int .i64 e_19.1), (.int .i64 e_19.2)]) rfl rfl rfl ?_
      refine g_alloc (gone_clear (s := s) (pk := [5]) (t := 5) rfl) ?_
      refine g_store (.agg [(.int .i64 e_19.1), (.int .i64 e_19.2)]) (rd_of rfl rfl) (rd_of rfl rfl) (by refine ⟨by decide, by decide, rfl, rfl, rfl, ?_⟩; first | rfl | simp [V.toks, V.tokss, Enc.toks_enc]) ?_
      refine g_end ?_
      refine e_end ?_
      refine renew [(2, (.ref (.bx 2) 0 [] (.agg [(.sl .nl (Enc.shp Int) 0 [])]))), (3, (.ref (.bx 3) 0 [] (.agg [(encO (.at 8 []) (.of (w_10 : List Int)))]))), (5, (.ref (.bx 5) 0 [] (.agg [(.int .i64 e_19.1), (.int .i64 e_19.2)]))), (11, (Enc.enc (g_1.2 : List (Int × Int)))), (12, (.int .i64 (g_1.2.length : Int))), (13, (.int .i64 t13_11))] ⟨(keep_mut (keep_clear (s := s) (pk := [5]) h2 rfl (map_bx rfl (map_agg (maps_cons rfl maps_nil)))) (mut_ref_ne rfl rfl (mut_agg (muts_cons rfl rfl)))), (keep_mut (keep_clear (s := s) (pk := [5]) h3 rfl (map_bx rfl (map_agg (maps_cons (map_encO (r := 8) (p := []) rfl rfl) maps_nil)))) (mut_ref_ne rfl rfl (mut_agg (muts_cons (mut_own_ne rfl rfl) rfl)))), (keep_mut rfl rfl), (keep_mut (keep_clear (s := s) (pk := [5]) h11 rfl (Enc.map_enc _ (g_1.2 : List (Int × Int)))) (Enc.mut_enc _ _ _ _ (g_1.2 : List (Int × Int)))), (keep_mut (keep_clear (s := s) (pk := [5]) h12 rfl rfl) rfl), (keep_mut (keep_clear (s := s) (pk := [5]) h13 rfl rfl) rfl)⟩ ?_
      rintro s ⟨h2, h3, h5, h11, h12, h13⟩
      refine .nsq ?_
      refine .seq ?_
      refine run_reg ?_
      refine e_end ?_
      refine g_v1 (t := 3) (u := (.ref (.bx 3) 0 [] (.agg [(encO (.at 8 []) (.of (w_10 : List Int)))]))) (.ref (.bx 3) 0 [0] (encO (.at 8 []) (.of (w_10 : List Int)))) h3 rfl rfl ?_
      refine g_v1 (t := 17) (u := (.ref (.bx 3) 0 [0] (encO (.at 8 []) (.of (w_10 : List Int))))) (encO (.at 8 []) (.of (w_10 : List Int))) rfl rfl rfl ?_
      refine g_v1 (t := 5) (u := (.ref (.bx 5) 0 [] (.agg [(.int .i64 e_19.1), (.int .i64 e_19.2)]))) (.ref (.bx 5) 0 [0] (.int .i64 e_19.1)) h5 rfl rfl ?_
      refine g_v1 (t := 19) (u := (.ref (.bx 5) 0 [0] (.int .i64 e_19.1))) (.int .i64 e_19.1) rfl rfl rfl ?_
      obtain ⟨e_20, E_e_20, h⟩ := bind_some h
      refine g_v (.ref (.at 8 []) e_19.1.toNat [] (.int .i64 e_20)) (ev_idxO (o := (.of w_10)) rfl rfl E_e_20 rfl) ?_
      refine g_v1 (t := 21) (u := (.ref (.at 8 []) e_19.1.toNat [] (.int .i64 e_20))) (.int .i64 e_20) rfl rfl rfl ?_
      refine g_v1 (t := 5) (u := (.ref (.bx 5) 0 [] (.agg [(.int .i64 e_19.1), (.int .i64 e_19.2)]))) (.ref (.bx 5) 0 [1] (.int .i64 e_19.2)) h5 rfl rfl ?_
      refine g_v1 (t := 23) (u := (.ref (.bx 5) 0 [1] (.int .i64 e_19.2))) (.int .i64 e_19.2) rfl rfl rfl ?_
      obtain ⟨q_21, E_q_21, h⟩ := bind_some h
      refine g_v (.int .i64 q_21) (ev_shl rfl rfl E_q_21) ?_
      refine g_v2 (t1 := 22) (t2 := 25) (u1 := (.int .i64 e_20)) (u2 := (.int .i64 q_21)) (.int .i64 (ior .i64 e_20 q_21)) rfl rfl rfl rfl ?_
      obtain ⟨e_22, E_e_22, h⟩ := bind_some h
      refine g_v (.ref (.at 8 []) e_19.1.toNat [] (.int .i64 e_22)) (ev_idxO (o := (.of w_10)) rfl rfl E_e_22 rfl) ?_
      refine g_store (.int .i64 (ior .i64 e_20 q_21)) (rd_of rfl rfl) (rd_of rfl rfl) (by refine ⟨by decide, by decide, rfl, rfl, rfl, ?_⟩; first | rfl | simp [V.toks, V.tokss, Enc.toks_enc]) ?_
      refine g_end ?_
      refine e_end ?_
      refine renew [(2, (.ref (.bx 2) 0 [] (.agg [(.sl .nl (Enc.shp Int) 0 [])]))), (3, (.ref (.bx 3) 0 [] (.agg [(encO (.at 8 []) (.of (w_10.set e_19.1.toNat (ior .i64 e_20 q_21) : List Int)))]))), (5, (.ref (.bx 5) 0 [] (.agg [(.int .i64 e_19.1), (.int .i64 e_19.2)]))), (11, (Enc.enc (g_1.2 : List (Int × Int)))), (12, (.int .i64 (g_1.2.length : Int))), (13, (.int .i64 t13_11))] ⟨(keep_mut h2 (mut_ref_ne rfl rfl (mut_agg (muts_cons rfl rfl)))), (keep_mut h3 (mut_ref_ne rfl rfl (mut_agg (muts_cons mut_own rfl)))), (keep_mut h5 rfl), (keep_mut h11 (Enc.mut_enc _ _ _ _ (g_1.2 : List (Int × Int)))), (keep_mut h12 rfl), (keep_mut h13 rfl)⟩ ?_
      rintro s ⟨h2, h3, h5, h11, h12, h13⟩
      refine .nsq ?_
      refine run_reg ?_
      refine e_end ?_
      refine g_v1 (t := 3) (u := (.ref (.bx 3) 0 [] (.agg [(encO (.at 8 []) (.of (w_10.set e_19.1.toNat (ior .i64 e_20 q_21) : List Int)))]))) (.ref (.bx 3) 0 [0] (encO (.at 8 []) (.of (w_10.set e_19.1.toNat (ior .i64 e_20 q_21) : List Int)))) h3 rfl rfl ?_
      refine g_v1 (t := 28) (u := (.ref (.bx 3) 0 [0] (encO (.at 8 []) (.of (w_10.set e_19.1.toNat (ior .i64 e_20 q_21) : List Int))))) (encO (.at 8 []) (.of (w_10.set e_19.1.toNat (ior .i64 e_20 q_21) : List Int))) rfl rfl rfl ?_
      refine g_v1 (t := 5) (u := (.ref (.bx 5) 0 [] (.agg [(.int .i64 e_19.1), (.int .i64 e_19.2)]))) (.ref (.bx 5) 0 [1] (.int .i64 e_19.2)) h5 rfl rfl ?_
      refine g_v1 (t := 30) (u := (.ref (.bx 5) 0 [1] (.int .i64 e_19.2))) (.int .i64 e_19.2) rfl rfl rfl ?_
      obtain ⟨e_23, E_e_23, h⟩ := bind_some h
      refine g_v (.ref (.at 8 []) e_19.2.toNat [] (.int .i64 e_23)) (ev_idxO (o := (.of (w_10.set e_19.1.toNat (ior .i64 e_20 q_21)))) rfl rfl E_e_23 rfl) ?_
      refine g_v1 (t := 32) (u := (.ref (.at 8 []) e_19.2.toNat [] (.int .i64 e_23))) (.int .i64 e_23) rfl rfl rfl ?_
      refine g_v1 (t := 5) (u := (.ref (.bx 5) 0 [] (.agg [(.int .i64 e_19.1), (.int .i64 e_19.2)]))) (.ref (.bx 5) 0 [0] (.int .i64 e_19.1)) h5 rfl rfl ?_
      refine g_v1 (t := 34) (u := (.ref (.bx 5) 0 [0] (.int .i64 e_19.1))) (.int .i64 e_19.1) rfl rfl rfl ?_
      obtain ⟨q_24, E_q_24, h⟩ := bind_some h
      refine g_v (.int .i64 q_24) (ev_shl rfl rfl E_q_24) ?_
      refine g_v2 (t1 := 33) (t2 := 36) (u1 := (.int .i64 e_23)) (u2 := (.int .i64 q_24)) (.int .i64 (ior .i64 e_23 q_24)) rfl rfl rfl rfl ?_
      obtain ⟨e_25, E_e_25, h⟩ := bind_some h
      refine g_v (.ref (.at 8 []) e_19.2.toNat [] (.int .i64 e_25)) (ev_idxO (o := (.of (w_10.set e_19.1.toNat (ior .i64 e_20 q_21)))) rfl rfl E_e_25 rfl) ?_
      refine g_store (.int .i64 (ior .i64 e_23 q_24)) (rd_of rfl rfl) (rd_of rfl rfl) (by refine ⟨by decide, by decide, rfl, rfl, rfl, ?_⟩; first | rfl | simp [V.toks, V.tokss, Enc.toks_enc]) ?_
      refine g_end ?_
      refine e_end ?_
      refine renew [(2, (.ref (.bx 2) 0 [] (.agg [(.sl .nl (Enc.shp Int) 0 [])]))), (3, (.ref (.bx 3) 0 [] (.agg [(encO (.at 8 []) (.of ((w_10.set e_19.1.toNat (ior .i64 e_20 q_21)).set e_19.2.toNat (ior .i64 e_23 q_24) : List Int)))]))), (11, (Enc.enc (g_1.2 : List (Int × Int)))), (12, (.int .i64 (g_1.2.length : Int))), (13, (.int .i64 t13_11))] ⟨(keep_mut h2 (mut_ref_ne rfl rfl (mut_agg (muts_cons rfl rfl)))), (keep_mut h3 (mut_ref_ne rfl rfl (mut_agg (muts_cons mut_own rfl)))), (keep_mut h11 (Enc.mut_enc _ _ _ _ (g_1.2 : List (Int × Int)))), (keep_mut h12 rfl), (keep_mut h13 rfl)⟩ ?_
      rintro s ⟨h2, h3, h11, h12, h13⟩
      refine .nbk ?_
      refine .nsq ?_
      refine run_reg ?_
      refine e_end ?_
      refine g_v1 (t := 13) (u := (.int .i64 t13_11)) (.int .i64 (w64 (t13_11 + 1))) h13 rfl rfl ?_
      refine g_v1 (t := 39) (u := (.int .i64 (w64 (t13_11 + 1)))) (.int .i64 (w64 (t13_11 + 1))) rfl rfl rfl ?_
      refine g_end ?_
      refine e_end ?_
      refine renew [(2, (.ref (.bx 2) 0 [] (.agg [(.sl .nl (Enc.shp Int) 0 [])]))), (3, (.ref (.bx 3) 0 [] (.agg [(encO (.at 8 []) (.of ((w_10.set e_19.1.toNat (ior .i64 e_20 q_21)).set e_19.2.toNat (ior .i64 e_23 q_24) : List Int)))]))), (11, (Enc.enc (g_1.2 : List (Int × Int)))), (12, (.int .i64 (g_1.2.length : Int))), (13, (.int .i64 (w64 (t13_11 + 1))))] ⟨h2, h3, h11, h12, rfl⟩ ?_
      rintro s ⟨h2, h3, h11, h12, h13⟩
      refine .nlp ?_
      exact ih ((w_10.set e_19.1.toNat (ior .i64 e_20 q_21)).set e_19.2.toNat (ior .i64 e_23 q_24)) (w64 (t13_11 + 1)) _ ⟨h2, h3, h11, h12, h13⟩ h
    · refine .exit ?_
      refine .esq ?_
      refine .elp ?_
      refine .ebk ?_
      refine .nsq ?_
      refine .seq ?_
      refine run_reg ?_
      refine e_end ?_
      refine g_v1 (t := 3) (u := (.ref (.bx 3) 0 [] (.agg [(encO (.at 8 []) (.of (w_10 : List Int)))]))) (.agg [(encO (.at 8 []) (.of (w_10 : List Int)))]) h3 rfl rfl ?_
      refine g_store (.agg [(encO (.at 8 []) (.of (w_10 : List Int)))]) (rd_of h2 rfl) (rd_of rfl rfl) (by refine ⟨by decide, by decide, rfl, rfl, rfl, ?_⟩; first | rfl | simp [V.toks, V.tokss, Enc.toks_enc]) ?_
      refine g_end ?_
      refine e_end ?_
      refine renew [(2, (.ref (.bx 2) 0 [] (.agg [(encO (.at 8 []) (.of (w_10 : List Int)))])))] (keep_mut h2 rfl) ?_
      rintro s h2
      refine .nsq ?_
      refine .ret ?_
      have hr := Option.some.inj h
      subst hr
      exact rrA (res_cell h2 (by kernel_rfl)) (fin_retF (fin_agg (fins_cons (fin_own (o := .of w_10)) fins_nil)) (mine_agg (mines_cons (mine_own rfl) mines_nil)))
def i_netOf (F : Nat) (g_1 : (Int × (List (Int × Int)))) : Option (S1 (List Int)) :=
  (mkN g_1.1 (0 : Int)).bind fun mk_2 =>
  i_netOf_l1 F g_1 F mk_2 0
theorem t52 (H : H52 D σ F) (g_1 : (Int × (List (Int × Int)))) (s : Nat → V) (hs : Facts [(0, (.agg [(.int .i64 g_1.1), (Enc.enc (g_1.2 : List (Int × Int)))]))] s) (h : i_netOf F g_1 = some r) : Run D σ (R52 r) (.run A52 []) s := by
  unfold i_netOf at h
  have h0 := hs
  refine .seq ?_
  refine run_reg ?_
  refine e_clr ?_
  refine e_end ?_
  refine g_box (.agg [(.int .i64 g_1.1), (Enc.enc (g_1.2 : List (Int × Int)))]) (rd_of (keep_clear (s := s) (pk := [1, 2]) h0 rfl (map_agg (maps_cons rfl (maps_cons (Enc.map_enc _ (g_1.2 : List (Int × Int))) maps_nil)))) rfl) (gone_clear (s := s) (pk := [1, 2]) (t := 1) rfl) rfl ?_
  refine g_alloc (gone_clear (s := s) (pk := [1, 2]) (t := 2) rfl) ?_
  refine g_end ?_
  refine e_end ?_
  refine renew [(1, (.ref (.bx 1) 0 [] (.agg [(.int .i64 g_1.1), (Enc.enc (g_1.2 : List (Int × Int)))]))), (2, (.ref (.bx 2) 0 [] (.agg [(.sl .nl (Enc.shp Int) 0 [])])))] ⟨rfl, rfl⟩ ?_
  rintro s ⟨h1, h2⟩
  refine .nsq ?_
  refine .seq ?_
  refine run_reg ?_
  refine e_clr ?_
  refine e_end ?_
  refine g_v1 (t := 1) (u := (.ref (.bx 1) 0 [] (.agg [(.int .i64 g_1.1), (Enc.enc (g_1.2 : List (Int × Int)))]))) (.ref (.bx 1) 0 [0] (.int .i64 g_1.1)) (keep_clear (s := s) (pk := [8, 3]) h1 rfl (map_bx rfl (map_agg (maps_cons rfl (maps_cons (Enc.map_enc _ (g_1.2 : List (Int × Int))) maps_nil))))) rfl rfl ?_
  refine g_v1 (t := 6) (u := (.ref (.bx 1) 0 [0] (.int .i64 g_1.1))) (.int .i64 g_1.1) rfl rfl rfl ?_
  obtain ⟨mk_2, E_mk_2, h⟩ := bind_some h
  refine g_mk (0 : Int) rfl rfl (gone_clear (s := s) (pk := [8, 3]) (t := 8) rfl) E_mk_2 ?_
  refine g_v1 (t := 8) (u := (encO (.at 8 []) (.of (mk_2 : List Int)))) (.agg [(encO (.at 8 []) (.of (mk_2 : List Int)))]) rfl rfl rfl ?_
  refine g_alloc (gone_clear (s := s) (pk := [8, 3]) (t := 3) rfl) ?_
  refine g_store (.agg [(encO (.at 8 []) (.of (mk_2 : List Int)))]) (rd_of rfl rfl) (rd_of rfl rfl) (by refine ⟨by decide, by decide, rfl, rfl, rfl, ?_⟩; first | rfl | simp [V.toks, V.tokss, Enc.toks_enc]) ?_
  refine g_end ?_
  refine e_end ?_
  refine renew [(1, (.ref (.bx 1) 0 [] (.agg [(.int .i64 g_1.1), (Enc.enc (g_1.2 : List (Int × Int)))]))), (2, (.ref (.bx 2) 0 [] (.agg [(.sl .nl (Enc.shp Int) 0 [])]))), (3, (.ref (.bx 3) 0 [] (.agg [(encO (.at 8 []) (.of (mk_2 : List Int)))])))] ⟨(keep_mut (keep_clear (s := s) (pk := [8, 3]) h1 rfl (map_bx rfl (map_agg (maps_cons rfl (maps_cons (Enc.map_enc _ (g_1.2 : List (Int × Int))) maps_nil))))) (mut_ref_ne rfl rfl (mut_agg (muts_cons rfl (muts_cons (Enc.mut_enc _ _ _ _ (g_1.2 : List (Int × Int))) rfl))))), (keep_mut (keep_clear (s := s) (pk := [8, 3]) h2 rfl (map_bx rfl (map_agg (maps_cons rfl maps_nil)))) (mut_ref_ne rfl rfl (mut_agg (muts_cons rfl rfl)))), (keep_mut rfl rfl)⟩ ?_
  rintro s ⟨h1, h2, h3⟩
  refine .nsq ?_
  refine .seq ?_
  refine .seq ?_
  refine run_reg ?_
  refine e_end ?_
  refine g_v1 (t := 1) (u := (.ref (.bx 1) 0 [] (.agg [(.int .i64 g_1.1), (Enc.enc (g_1.2 : List (Int × Int)))]))) (.ref (.bx 1) 0 [1] (Enc.enc (g_1.2 : List (Int × Int)))) h1 rfl rfl ?_
  refine g_v1 (t := 10) (u := (.ref (.bx 1) 0 [1] (Enc.enc (g_1.2 : List (Int × Int))))) (Enc.enc (g_1.2 : List (Int × Int))) rfl rfl rfl ?_
  refine g_v (.int .i64 (g_1.2.length : Int)) (ev_len (xs := g_1.2) rfl) ?_
  refine g_v0 (.int .i64 0) rfl rfl ?_
  refine g_end ?_
  refine e_end ?_
  refine renew [(2, (.ref (.bx 2) 0 [] (.agg [(.sl .nl (Enc.shp Int) 0 [])]))), (3, (.ref (.bx 3) 0 [] (.agg [(encO (.at 8 []) (.of (mk_2 : List Int)))]))), (11, (Enc.enc (g_1.2 : List (Int × Int)))), (12, (.int .i64 (g_1.2.length : Int))), (13, (.int .i64 0))] ⟨h2, h3, rfl, rfl, rfl⟩ ?_
  rintro s ⟨h2, h3, h11, h12, h13⟩
  refine .nsq ?_
  refine .block ?_
  refine .loop ?_
  exact t_f52_l1 H g_1 F mk_2 0 _ ⟨h2, h3, h11, h12, h13⟩ h
end
def e52 (F : Nat) : Ent := ⟨52, da (fun (x : ((Int × (List (Int × Int))) × Unit)) => i_netOf F x.1) (fun (r : (S1 (List Int))) => (Enc.enc (r : (S1 (List Int))))), 0, false, selF []⟩
theorem p52 {F : Nat} {x0 : (Int × (List (Int × Int)))} {r : (S1 (List Int))} (h : i_netOf F x0 = some r) : (e52 F).den [Enc.enc x0] = some (Enc.enc (r : (S1 (List Int)))) := da_put (f := fun (x : ((Int × (List (Int × Int))) × Unit)) => i_netOf F x.1) (t := fun (r : (S1 (List Int))) => (Enc.enc (r : (S1 (List Int))))) (x0, ()) h
theorem o52 {D : Den} {σ : Sig} {F : Nat} (hF : Fits2 Try.prog D σ) (H : H52 D σ F) : (e52 F).Ok Try.prog := by
  refine ok_of (f := 52) (show unk 52 = 52 from rfl) (fun args r h => ?_) ⟨Try.f52, Try.func52, rfl, rfl⟩
  obtain ⟨⟨x0, _⟩, y, rfl, hy, rfl⟩ := da_open h
  exact contract_run hF (by kernel_rfl) Try.func52 rfl c52 (show 1 ≤ Try.f52.ntmps by decide) (t52 H x0 _ rfl hy)
/- (loop.example/g01109/impl.net).all -/
def A59_1 : AC := (AC.seq (AC.reg [] [(I.mk (some 3) none false (X.v (A.fld (O.t 1) 0 0))), (I.mk (some 4) none false (X.v (A.load Sh.p (O.t 3)))), (I.mk (some 5) none false (X.v (A.len (O.t 4)))), (I.mk (some 6) none false (X.v (A.bin BinOp.shl (O.k (V.int IntKind.i64 (Int.ofNat 1))) (O.t 5)))), (I.mk (some 7) none false (X.v (A.bin BinOp.sub (O.t 6) (O.k (V.int IntKind.i64 (Int.ofNat 1)))))), (I.mk (some 2) none false (X.v (A.mov (O.t 7))))] []) AC.ret)
def A59 : AC := (AC.seq (AC.reg [.clr [1]] [(I.mk (some 1) none false (X.box (O.t 0))), (I.mk (some 2) none false (X.v (A.mov (O.k (V.int IntKind.i64 (Int.ofNat 0))))))] []) A59_1)
def an59 : List An := [{ id := 0, pre := [.clr [1]], ep := [], lin := [], sp := [] }]
theorem c59 : cC Try.prog Try.f59.ntmps an59 (Try.f59.body.getD .skip) = some A59 := by kernel_rfl
structure H59 (D : Den) (σ : Sig) (F : Nat) : Prop where
  mk ::
abbrev R59 (r : Int) : (Nat → V) → Prop := RR Try.prog [.tmp 2] 0 false (Enc.enc (r : Int))
section
variable {D : Den} {σ : Sig} {F : Nat} {r : Int}
def i_net_all (F : Nat) (w_1 : (S1 (List Int))) : Option Int :=
  (shlI .i64 1 (w_1.a.length : Int)).bind fun q_2 =>
  some (w64 (q_2 - 1))
theorem t59 (H : H59 D σ F) (w_1 : (S1 (List Int))) (s : Nat → V) (hs : Facts [(0, (.agg [(Enc.enc (w_1.a : List Int))]))] s) (h : i_net_all F w_1 = some r) : Run D σ (R59 r) (.run A59 []) s := by
  unfold i_net_all at h
  have h0 := hs
  refine .seq ?_
  refine run_reg ?_
  refine e_clr ?_
  refine e_end ?_
  refine g_box (.agg [(Enc.enc (w_1.a : List Int))]) (rd_of (keep_clear (s := s) (pk := [1]) h0 rfl (map_agg (maps_cons (Enc.map_enc _ (w_1.a : List Int)) maps_nil))) rfl) (gone_clear (s := s) (pk := [1]) (t := 1) rfl) rfl ?_
  refine g_v0 (.int .i64 0) rfl rfl ?_
  refine g_end ?_
  refine e_end ?_
  refine renew [(1, (.ref (.bx 1) 0 [] (.agg [(Enc.enc (w_1.a : List Int))]))), (2, (.int .i64 0))] ⟨rfl, rfl⟩ ?_
  rintro s ⟨h1, h2⟩
  refine .nsq ?_
  refine .seq ?_
  refine run_reg ?_
  refine e_end ?_
  refine g_v1 (t := 1) (u := (.ref (.bx 1) 0 [] (.agg [(Enc.enc (w_1.a : List Int))]))) (.ref (.bx 1) 0 [0] (Enc.enc (w_1.a : List Int))) h1 rfl rfl ?_
  refine g_v1 (t := 3) (u := (.ref (.bx 1) 0 [0] (Enc.enc (w_1.a : List Int)))) (Enc.enc (w_1.a : List Int)) rfl rfl rfl ?_
  refine g_v (.int .i64 (w_1.a.length : Int)) (ev_len (xs := w_1.a) rfl) ?_
  obtain ⟨q_2, E_q_2, h⟩ := bind_some h
  refine g_v (.int .i64 q_2) (ev_shl rfl rfl E_q_2) ?_
  refine g_v1 (t := 6) (u := (.int .i64 q_2)) (.int .i64 (w64 (q_2 - 1))) rfl rfl rfl ?_
  refine g_v1 (t := 7) (u := (.int .i64 (w64 (q_2 - 1)))) (.int .i64 (w64 (q_2 - 1))) rfl rfl rfl ?_
  refine g_end ?_
  refine e_end ?_
  refine renew [(2, (.int .i64 (w64 (q_2 - 1))))] rfl ?_
  rintro s h2
  refine .nsq ?_
  refine .ret ?_
  have hr := Option.some.inj h
  subst hr
  exact rrA (res_tmp h2) rfl
end
def e59 (F : Nat) : Ent := ⟨59, da (fun (x : ((S1 (List Int)) × Unit)) => i_net_all F x.1) (fun (r : Int) => (Enc.enc (r : Int))), 0, false, selF []⟩
theorem p59 {F : Nat} {x0 : (S1 (List Int))} {r : Int} (h : i_net_all F x0 = some r) : (e59 F).den [Enc.enc x0] = some (Enc.enc (r : Int)) := da_put (f := fun (x : ((S1 (List Int)) × Unit)) => i_net_all F x.1) (t := fun (r : Int) => (Enc.enc (r : Int))) (x0, ()) h
theorem o59 {D : Den} {σ : Sig} {F : Nat} (hF : Fits2 Try.prog D σ) (H : H59 D σ F) : (e59 F).Ok Try.prog := by
  refine ok_of (f := 59) (show unk 59 = 59 from rfl) (fun args r h => ?_) ⟨Try.f59, Try.func59, rfl, rfl⟩
  obtain ⟨⟨x0, _⟩, y, rfl, hy, rfl⟩ := da_open h
  exact contract_run hF (by kernel_rfl) Try.func59 rfl c59 (show 1 ≤ Try.f59.ntmps by decide) (t59 H x0 _ rfl hy)
/- loop.example/g01109/impl.setOf -/
def A60_2 : AC := (AC.cond (O.t 8) AC.skip (AC.exit 0))
def A60_4 : AC := (AC.cond (O.t 15) (AC.reg [.clr [18, 19]] [(I.mk (some 16) none false (X.v (A.mov (O.t 3)))), (I.mk (some 17) none false (X.v (A.mov (O.t 4)))), (I.mk (some 18) none false (X.lit (V.int IntKind.i64 (Int.ofNat 0)) 1 [(0, 0, (O.t 17))])), (I.mk (some 19) none false (X.app Sh.s (O.t 16) (O.t 18))), (I.mk (some 3) none false (X.v (A.mov (O.t 19))))] [.home 19 3]) AC.skip)
def A60_5 : AC := (AC.reg [] [(I.mk (some 9) none false (X.v (A.mov (O.t 4)))), (I.mk (some 10) none false (X.v (A.bin BinOp.add (O.t 9) (O.k (V.int IntKind.i64 (Int.ofNat 1)))))), (I.mk (some 4) none false (X.v (A.mov (O.t 10))))] [])
def A60_3 : AC := (AC.seq (AC.block 1 (AC.seq (AC.reg [] [(I.mk (some 11) none false (X.v (A.mov (O.t 0)))), (I.mk (some 12) none false (X.v (A.mov (O.t 4)))), (I.mk (some 13) none false (X.v (A.bin BinOp.shr (O.t 11) (O.t 12)))), (I.mk (some 14) none false (X.v (A.bin BinOp.and (O.t 13) (O.k (V.int IntKind.i64 (Int.ofNat 1)))))), (I.mk (some 15) none false (X.v (A.bin BinOp.eql (O.t 14) (O.k (V.int IntKind.i64 (Int.ofNat 1))))))] []) A60_4)) A60_5)
def A60_1 : AC := (AC.seq (AC.seq (AC.reg [] [(I.mk (some 5) none false (X.v (A.mov (O.t 0)))), (I.mk (some 6) none false (X.v (A.mov (O.t 4)))), (I.mk (some 7) none false (X.v (A.bin BinOp.shr (O.t 5) (O.t 6)))), (I.mk (some 8) none false (X.v (A.bin BinOp.neq (O.t 7) (O.k (V.int IntKind.i64 (Int.ofNat 0))))))] []) A60_2) A60_3)
def A60_6 : AC := (AC.seq (AC.reg [] [(I.mk (some 20) none false (X.v (A.mov (O.t 3)))), (I.mk (some 2) none false (X.v (A.mov (O.t 20))))] [.home 3 2]) AC.ret)
def A60_9 : AC := (AC.block 0 (AC.loop A60_1))
def A60_8 : AC := (AC.seq (AC.seq (AC.reg [] [(I.mk (some 4) none false (X.v (A.mov (O.k (V.int IntKind.i64 (Int.ofNat 0))))))] []) A60_9) A60_6)
def A60_7 : AC := (AC.seq (AC.reg [] [(I.mk (some 3) none false (X.v (A.mov (O.k (V.sl Tok.nl Sh.s 0 [])))))] []) A60_8)
def A60 : AC := (AC.seq (AC.reg [] [(I.mk (some 2) none false (X.v (A.mov (O.k (V.sl Tok.nl Sh.s 0 [])))))] []) A60_7)
def an60 : List An := [{ id := 6, pre := [.clr [18, 19]], ep := [.home 19 3], lin := [], sp := [] }, { id := 7, pre := [], ep := [.home 3 2], lin := [], sp := [] }]
theorem c60 : cC Try.prog Try.f60.ntmps an60 (Try.f60.body.getD .skip) = some A60 := by kernel_rfl
structure H60 (D : Den) (σ : Sig) (F : Nat) : Prop where
  mk ::
abbrev R60 (r : (List Int)) : (Nat → V) → Prop := RR Try.prog [.tmp 2] 0 false (Enc.enc (r : (List Int)))
section
variable {D : Den} {σ : Sig} {F : Nat} {r : (List Int)}
def i_setOf_j1 (F : Nat) (set_1 : Int) (x_8 : Int) (c1 : (NL Int) → Int → Option (List Int)) (list_17 : (NL Int)) : Option (List Int) :=
  c1 list_17 (w64 (x_8 + 1))
theorem t_f60_j1 (H : H60 D σ F) (set_1 : Int) (x_8 : Int) (c1 : (NL Int) → Int → Option (List Int)) (Hc1 : ∀ (list_7 : (NL Int)) (x_8 : Int) (s : Nat → V), Facts [(0, (.int .i64 set_1)), (2, (.sl .nl (Enc.shp Int) 0 [])), (3, (encO (.at 3 []) (list_7 : NL Int))), (4, (.int .i64 x_8))] s → c1 list_7 x_8 = some r → Run D σ (R60 r) (.run A60_1 [.lp A60_1, .bk 0, .sq A60_6]) s) (list_17 : (NL Int)) (s : Nat → V) (hs : Facts [(0, (.int .i64 set_1)), (2, (.sl .nl (Enc.shp Int) 0 [])), (3, (encO (.at 3 []) (list_17 : NL Int))), (4, (.int .i64 x_8))] s) (h : i_setOf_j1 F set_1 x_8 c1 list_17 = some r) : Run D σ (R60 r) (.nrm [.bk 1, .sq A60_5, .lp A60_1, .bk 0, .sq A60_6]) s := by
  unfold i_setOf_j1 at h
  obtain ⟨h0, h2, h3, h4⟩ := hs
  refine .nbk ?_
  refine .nsq ?_
  refine run_reg ?_
  refine e_end ?_
  refine g_v1 (t := 4) (u := (.int .i64 x_8)) (.int .i64 x_8) h4 rfl rfl ?_
  refine g_v1 (t := 9) (u := (.int .i64 x_8)) (.int .i64 (w64 (x_8 + 1))) rfl rfl rfl ?_
  refine g_v1 (t := 10) (u := (.int .i64 (w64 (x_8 + 1)))) (.int .i64 (w64 (x_8 + 1))) rfl rfl rfl ?_
  refine g_end ?_
  refine e_end ?_
  refine renew [(0, (.int .i64 set_1)), (2, (.sl .nl (Enc.shp Int) 0 [])), (3, (encO (.at 3 []) (list_17 : NL Int))), (4, (.int .i64 (w64 (x_8 + 1))))] ⟨h0, h2, h3, rfl⟩ ?_
  rintro s ⟨h0, h2, h3, h4⟩
  refine .nlp ?_
  exact Hc1 list_17 (w64 (x_8 + 1)) _ ⟨h0, h2, h3, h4⟩ h
def i_setOf_l1 (F : Nat) (set_1 : Int)  : Nat → (NL Int) → Int → Option (List Int)
  | 0, _, _ => none
  | k + 1, list_7, x_8 =>
    (shrI .i64 set_1 x_8).bind fun q_14 =>
    bif (q_14 != 0) then
      (shrI .i64 set_1 x_8).bind fun q_15 =>
      bif ((iand .i64 q_15 1) == 1) then
        (appL list_7.list [x_8]).bind fun ap_18 =>
        i_setOf_j1 F set_1 x_8 (i_setOf_l1 F set_1 k) (.of ap_18)
      else
        i_setOf_j1 F set_1 x_8 (i_setOf_l1 F set_1 k) list_7
    else
      some list_7.list
theorem t_f60_l1 (H : H60 D σ F) (set_1 : Int)  : ∀ (k : Nat) (list_7 : (NL Int)) (x_8 : Int) (s : Nat → V), Facts [(0, (.int .i64 set_1)), (2, (.sl .nl (Enc.shp Int) 0 [])), (3, (encO (.at 3 []) (list_7 : NL Int))), (4, (.int .i64 x_8))] s → i_setOf_l1 F set_1 k list_7 x_8 = some r → Run D σ (R60 r) (.run A60_1 [.lp A60_1, .bk 0, .sq A60_6]) s := by
  intro k
  induction k with
  | zero => intro list_7 x_8 s _ h; exact nomatch (h : (none : Option _) = some r)
  | succ k ih =>
    intro list_7 x_8 s hs h
    rw [i_setOf_l1] at h
    obtain ⟨h0, h2, h3, h4⟩ := hs
    refine .seq ?_
    refine .seq ?_
    refine run_reg ?_
    refine e_end ?_
    refine g_v1 (t := 0) (u := (.int .i64 set_1)) (.int .i64 set_1) h0 rfl rfl ?_
    refine g_v1 (t := 4) (u := (.int .i64 x_8)) (.int .i64 x_8) h4 rfl rfl ?_
    obtain ⟨q_14, E_q_14, h⟩ := bind_some h
    refine g_v (.int .i64 q_14) (ev_shr rfl rfl E_q_14) ?_
    refine g_v1 (t := 7) (u := (.int .i64 q_14)) (.bool (q_14 != 0)) rfl rfl rfl ?_
    refine g_end ?_
    refine e_end ?_
    refine renew [(0, (.int .i64 set_1)), (2, (.sl .nl (Enc.shp Int) 0 [])), (3, (encO (.at 3 []) (list_7 : NL Int))), (4, (.int .i64 x_8)), (8, (.bool (q_14 != 0)))] ⟨h0, h2, h3, h4, rfl⟩ ?_
    rintro s ⟨h0, h2, h3, h4, h8⟩
    refine .nsq ?_
    refine run_cond (t := (q_14 != 0)) h8 h (fun h => ?_) (fun h => ?_)
    · refine .skip ?_
      refine .nsq ?_
      refine .seq ?_
      refine .block ?_
      refine .seq ?_
      refine run_reg ?_
      refine e_end ?_
      refine g_v1 (t := 0) (u := (.int .i64 set_1)) (.int .i64 set_1) h0 rfl rfl ?_
      refine g_v1 (t := 4) (u := (.int .i64 x_8)) (.int .i64 x_8) h4 rfl rfl ?_
      obtain ⟨q_15, E_q_15, h⟩ := bind_some h
      refine g_v (.int .i64 q_15) (ev_shr rfl rfl E_q_15) ?_
      refine g_v1 (t := 13) (u := (.int .i64 q_15)) (.int .i64 (iand .i64 q_15 1)) rfl rfl rfl ?_
      refine g_v1 (t := 14) (u := (.int .i64 (iand .i64 q_15 1))) (.bool ((iand .i64 q_15 1) == 1)) rfl rfl rfl ?_
      refine g_end ?_
      refine e_end ?_
      refine renew [(0, (.int .i64 set_1)), (2, (.sl .nl (Enc.shp Int) 0 [])), (3, (encO (.at 3 []) (list_7 : NL Int))), (4, (.int .i64 x_8)), (15, (.bool ((iand .i64 q_15 1) == 1)))] ⟨h0, h2, h3, h4, rfl⟩ ?_
      rintro s ⟨h0, h2, h3, h4, h15⟩
      refine .nsq ?_
      refine run_cond (t := ((iand .i64 q_15 1) == 1)) h15 h (fun h => ?_) (fun h => ?_)
      · refine run_reg ?_
        refine e_clr ?_
        refine e_end ?_
        refine g_v (encO (.at 3 []) (list_7 : NL Int)) (ev_mov (keep_clear (s := s) (pk := [18, 19]) h3 rfl (map_encO (r := 3) (p := []) rfl rfl)) ok_encO) ?_
        refine g_v1 (t := 4) (u := (.int .i64 x_8)) (.int .i64 x_8) (keep_clear (s := s) (pk := [18, 19]) h4 rfl rfl) rfl rfl ?_
        refine g_litL [(17, (.int .i64 x_8))] [Enc.enc (x_8 : Int)] rfl rfl rfl (gone_clear (s := s) (pk := [18, 19]) (t := 18) rfl) ?_
        obtain ⟨ap_18, E_ap_18, h⟩ := bind_some h
        refine g_app (q := 3) (p := []) (o := (list_7 : NL Int)) (ys := ([x_8] : List Int)) (t2 := (.at 18 [])) (lo2 := 0) rfl rfl rfl (gone_clear (s := s) (pk := [18, 19]) (t := 19) rfl) (appN_L (o := (list_7 : NL Int)) E_ap_18 (by split <;> simp)) (fun s_17 ha_17 => ?_)
        refine g_v1 (t := 19) (u := (encO (.at 19 []) (.of (ap_18 : List Int)))) (encO (.at 19 []) (.of (ap_18 : List Int))) rfl rfl rfl ?_
        refine g_end ?_
        refine e_home (r := 19) (x := 3) (v := (encO (.at 19 []) (.of (ap_18 : List Int)))) (by exact rfl) rfl (fun s_18 hg_18 => ?_)
        refine e_end ?_
        refine renew [(0, (.int .i64 set_1)), (2, (.sl .nl (Enc.shp Int) 0 [])), (3, (encO (.at 3 []) (.of (ap_18 : List Int)))), (4, (.int .i64 x_8))] ⟨(hg_18 0 (.int .i64 set_1) (.int .i64 set_1) (show s_17 0 = (.int .i64 set_1) from keep_app ha_17 (keep_clear (s := s) (pk := [18, 19]) h0 rfl rfl) rfl) rfl), (hg_18 2 (.sl .nl (Enc.shp Int) 0 []) (.sl .nl (Enc.shp Int) 0 []) (show s_17 2 = (.sl .nl (Enc.shp Int) 0 []) from keep_app ha_17 (keep_clear (s := s) (pk := [18, 19]) h2 rfl rfl) rfl) rfl), (hg_18 3 (encO (.at 19 []) (.of (ap_18 : List Int))) (encO (.at 3 []) (.of (ap_18 : List Int))) rfl (map_encO (r := 19) (p := []) rfl rfl)), (hg_18 4 (.int .i64 x_8) (.int .i64 x_8) (show s_17 4 = (.int .i64 x_8) from keep_app ha_17 (keep_clear (s := s) (pk := [18, 19]) h4 rfl rfl) rfl) rfl)⟩ ?_
        rintro s ⟨h0, h2, h3, h4⟩
        exact t_f60_j1 H set_1 x_8 (i_setOf_l1 F set_1 k) ih (.of ap_18) _ ⟨h0, h2, h3, h4⟩ h
      · refine .skip ?_
        exact t_f60_j1 H set_1 x_8 (i_setOf_l1 F set_1 k) ih list_7 _ ⟨h0, h2, h3, h4⟩ h
    · refine .exit ?_
      refine .esq ?_
      refine .elp ?_
      refine .ebk ?_
      refine .nsq ?_
      refine .seq ?_
      refine run_reg ?_
      refine e_end ?_
      refine g_v (encO (.at 3 []) (list_7 : NL Int)) (ev_mov h3 ok_encO) ?_
      refine g_v (encO (.at 3 []) (list_7 : NL Int)) (ev_mov rfl ok_encO) ?_
      refine g_end ?_
      refine e_home (r := 3) (x := 2) (v := (encO (.at 3 []) (list_7 : NL Int))) (by exact rfl) ok_encO (fun s_19 hg_19 => ?_)
      refine e_end ?_
      refine renew [(2, (encO (.at 2 []) (list_7 : NL Int)))] (hg_19 2 (encO (.at 3 []) (list_7 : NL Int)) (encO (.at 2 []) (list_7 : NL Int)) rfl (map_encO (r := 3) (p := []) rfl rfl)) ?_
      rintro s h2
      refine .nsq ?_
      refine .ret ?_
      have hr := Option.some.inj h
      subst hr
      exact rrA (res_tmp h2) (fin_retF (fin_own (o := list_7)) (mine_own rfl))
def i_setOf (F : Nat) (set_1 : Int) : Option (List Int) :=
  i_setOf_l1 F set_1 F .nil 0
theorem t60 (H : H60 D σ F) (set_1 : Int) (s : Nat → V) (hs : Facts [(0, (.int .i64 set_1))] s) (h : i_setOf F set_1 = some r) : Run D σ (R60 r) (.run A60 []) s := by
  unfold i_setOf at h
  have h0 := hs
  refine .seq ?_
  refine run_reg ?_
  refine e_end ?_
  refine g_v0 (.sl .nl (Enc.shp Int) 0 []) rfl rfl ?_
  refine g_end ?_
  refine e_end ?_
  refine renew [(0, (.int .i64 set_1)), (2, (.sl .nl (Enc.shp Int) 0 []))] ⟨h0, rfl⟩ ?_
  rintro s ⟨h0, h2⟩
  refine .nsq ?_
  refine .seq ?_
  refine run_reg ?_
  refine e_end ?_
  refine g_v0 (.sl .nl (Enc.shp Int) 0 []) rfl rfl ?_
  refine g_end ?_
  refine e_end ?_
  refine renew [(0, (.int .i64 set_1)), (2, (.sl .nl (Enc.shp Int) 0 [])), (3, (.sl .nl (Enc.shp Int) 0 []))] ⟨h0, h2, rfl⟩ ?_
  rintro s ⟨h0, h2, h3⟩
  refine .nsq ?_
  refine .seq ?_
  refine .seq ?_
  refine run_reg ?_
  refine e_end ?_
  refine g_v0 (.int .i64 0) rfl rfl ?_
  refine g_end ?_
  refine e_end ?_
  refine renew [(0, (.int .i64 set_1)), (2, (.sl .nl (Enc.shp Int) 0 [])), (3, (.sl .nl (Enc.shp Int) 0 [])), (4, (.int .i64 0))] ⟨h0, h2, h3, rfl⟩ ?_
  rintro s ⟨h0, h2, h3, h4⟩
  refine .nsq ?_
  refine .block ?_
  refine .loop ?_
  exact t_f60_l1 H set_1 F .nil 0 _ ⟨h0, h2, h3, h4⟩ h
end
def e60 (F : Nat) : Ent := ⟨60, da (fun (x : (Int × Unit)) => i_setOf F x.1) (fun (r : (List Int)) => (Enc.enc (r : (List Int)))), 0, false, selF []⟩
theorem p60 {F : Nat} {x0 : Int} {r : (List Int)} (h : i_setOf F x0 = some r) : (e60 F).den [Enc.enc x0] = some (Enc.enc (r : (List Int))) := da_put (f := fun (x : (Int × Unit)) => i_setOf F x.1) (t := fun (r : (List Int)) => (Enc.enc (r : (List Int)))) (x0, ()) h
theorem o60 {D : Den} {σ : Sig} {F : Nat} (hF : Fits2 Try.prog D σ) (H : H60 D σ F) : (e60 F).Ok Try.prog := by
  refine ok_of (f := 60) (show unk 60 = 60 from rfl) (fun args r h => ?_) ⟨Try.f60, Try.func60, rfl, rfl⟩
  obtain ⟨⟨x0, _⟩, y, rfl, hy, rfl⟩ := da_open h
  exact contract_run hF (by kernel_rfl) Try.func60 rfl c60 (show 1 ≤ Try.f60.ntmps by decide) (t60 H x0 _ rfl hy)
/- (loop.example/g01109/impl.net).closed -/
def A106_1 : AC := (AC.seq (AC.reg [] [(I.mk (some 5) none false (X.v (A.fld (O.t 2) 0 0))), (I.mk (some 6) none false (X.v (A.load Sh.p (O.t 5)))), (I.mk (some 7) none false (X.v (A.mov (O.t 1)))), (I.mk (some 8) none false (X.v (A.idx (O.t 6) (O.t 7) 1))), (I.mk (some 9) none false (X.v (A.load Sh.s (O.t 8)))), (I.mk (some 10) none false (X.v (A.mov (O.t 1)))), (I.mk (some 11) none false (X.v (A.bin BinOp.shl (O.k (V.int IntKind.i64 (Int.ofNat 1))) (O.t 10)))), (I.mk (some 12) none false (X.v (A.bin BinOp.or (O.t 9) (O.t 11)))), (I.mk (some 4) none false (X.v (A.mov (O.t 12))))] []) AC.ret)
def A106 : AC := (AC.seq (AC.reg [.clr [2]] [(I.mk (some 2) none false (X.box (O.t 0))), (I.mk (some 4) none false (X.v (A.mov (O.k (V.int IntKind.i64 (Int.ofNat 0))))))] []) A106_1)
def an106 : List An := [{ id := 0, pre := [.clr [2]], ep := [], lin := [], sp := [] }]
theorem c106 : cC Try.prog Try.f106.ntmps an106 (Try.f106.body.getD .skip) = some A106 := by kernel_rfl
structure H106 (D : Den) (σ : Sig) (F : Nat) : Prop where
  mk ::
abbrev R106 (r : Int) : (Nat → V) → Prop := RR Try.prog [.tmp 4] 0 false (Enc.enc (r : Int))
section
variable {D : Den} {σ : Sig} {F : Nat} {r : Int}
def i_net_closed (F : Nat) (w_1 : (S1 (List Int))) (x_2 : Int) : Option Int :=
  (idx w_1.a x_2).bind fun e_3 =>
  (shlI .i64 1 x_2).bind fun q_4 =>
  some (ior .i64 e_3 q_4)
theorem t106 (H : H106 D σ F) (w_1 : (S1 (List Int))) (x_2 : Int) (s : Nat → V) (hs : Facts [(0, (.agg [(Enc.enc (w_1.a : List Int))])), (1, (.int .i64 x_2))] s) (h : i_net_closed F w_1 x_2 = some r) : Run D σ (R106 r) (.run A106 []) s := by
  unfold i_net_closed at h
  obtain ⟨h0, h1⟩ := hs
  refine .seq ?_
  refine run_reg ?_
  refine e_clr ?_
  refine e_end ?_
  refine g_box (.agg [(Enc.enc (w_1.a : List Int))]) (rd_of (keep_clear (s := s) (pk := [2]) h0 rfl (map_agg (maps_cons (Enc.map_enc _ (w_1.a : List Int)) maps_nil))) rfl) (gone_clear (s := s) (pk := [2]) (t := 2) rfl) rfl ?_
  refine g_v0 (.int .i64 0) rfl rfl ?_
  refine g_end ?_
  refine e_end ?_
  refine renew [(1, (.int .i64 x_2)), (2, (.ref (.bx 2) 0 [] (.agg [(Enc.enc (w_1.a : List Int))]))), (4, (.int .i64 0))] ⟨(keep_clear (s := s) (pk := [2]) h1 rfl rfl), rfl, rfl⟩ ?_
  rintro s ⟨h1, h2, h4⟩
  refine .nsq ?_
  refine .seq ?_
  refine run_reg ?_
  refine e_end ?_
  refine g_v1 (t := 2) (u := (.ref (.bx 2) 0 [] (.agg [(Enc.enc (w_1.a : List Int))]))) (.ref (.bx 2) 0 [0] (Enc.enc (w_1.a : List Int))) h2 rfl rfl ?_
  refine g_v1 (t := 5) (u := (.ref (.bx 2) 0 [0] (Enc.enc (w_1.a : List Int)))) (Enc.enc (w_1.a : List Int)) rfl rfl rfl ?_
  refine g_v1 (t := 1) (u := (.int .i64 x_2)) (.int .i64 x_2) h1 rfl rfl ?_
  obtain ⟨e_3, E_e_3, h⟩ := bind_some h
  refine g_v (.ref .sh 0 [] (.int .i64 e_3)) (ev_idx (t := .sh) (lo := 0) (xs := w_1.a) rfl rfl E_e_3 rfl rfl) ?_
  refine g_v1 (t := 8) (u := (.ref .sh 0 [] (.int .i64 e_3))) (.int .i64 e_3) rfl rfl rfl ?_
  refine g_v1 (t := 1) (u := (.int .i64 x_2)) (.int .i64 x_2) h1 rfl rfl ?_
  obtain ⟨q_4, E_q_4, h⟩ := bind_some h
  refine g_v (.int .i64 q_4) (ev_shl rfl rfl E_q_4) ?_
  refine g_v2 (t1 := 9) (t2 := 11) (u1 := (.int .i64 e_3)) (u2 := (.int .i64 q_4)) (.int .i64 (ior .i64 e_3 q_4)) rfl rfl rfl rfl ?_
  refine g_v1 (t := 12) (u := (.int .i64 (ior .i64 e_3 q_4))) (.int .i64 (ior .i64 e_3 q_4)) rfl rfl rfl ?_
  refine g_end ?_
  refine e_end ?_
  refine renew [(4, (.int .i64 (ior .i64 e_3 q_4)))] rfl ?_
  rintro s h4
  refine .nsq ?_
  refine .ret ?_
  have hr := Option.some.inj h
  subst hr
  exact rrA (res_tmp h4) rfl
end
def e106 (F : Nat) : Ent := ⟨106, da (fun (x : ((S1 (List Int)) × Int × Unit)) => i_net_closed F x.1 x.2.1) (fun (r : Int) => (Enc.enc (r : Int))), 0, false, selF []⟩
theorem p106 {F : Nat} {x0 : (S1 (List Int))} {x1 : Int} {r : Int} (h : i_net_closed F x0 x1 = some r) : (e106 F).den [Enc.enc x0, Enc.enc x1] = some (Enc.enc (r : Int)) := da_put (f := fun (x : ((S1 (List Int)) × Int × Unit)) => i_net_closed F x.1 x.2.1) (t := fun (r : Int) => (Enc.enc (r : Int))) (x0, x1, ()) h
theorem o106 {D : Den} {σ : Sig} {F : Nat} (hF : Fits2 Try.prog D σ) (H : H106 D σ F) : (e106 F).Ok Try.prog := by
  refine ok_of (f := 106) (show unk 106 = 106 from rfl) (fun args r h => ?_) ⟨Try.f106, Try.func106, rfl, rfl⟩
  obtain ⟨⟨x0, x1, _⟩, y, rfl, hy, rfl⟩ := da_open h
  exact contract_run hF (by kernel_rfl) Try.func106 rfl c106 (show 2 ≤ Try.f106.ntmps by decide) (t106 H x0 x1 _ ⟨rfl, rfl⟩ hy)
/- (loop.example/g01109/impl.net).isClique$1 -/
def A105_1 : AC := (AC.seq (AC.reg [] [(I.mk (some 5) none false (X.v (A.load Sh.s (O.t 1)))), (I.mk (some 6) none false (X.v (A.load (Sh.ag [Sh.p]) (O.t 2)))), (I.mk (some 7) none false (X.v (A.mov (O.t 0)))), (I.mk (some 8) none false (X.call (O.k (V.fn 106 [] [])) [(O.t 6), (O.t 7)])), (I.mk (some 9) none false (X.v (A.bin BinOp.andNot (O.t 5) (O.t 8)))), (I.mk (some 10) none false (X.v (A.bin BinOp.neq (O.t 9) (O.k (V.int IntKind.i64 (Int.ofNat 0)))))), (I.mk (some 4) none false (X.v (A.mov (O.t 10))))] []) AC.ret)
def A105 : AC := (AC.seq (AC.reg [] [(I.mk (some 4) none false (X.v (A.mov (O.k (V.bool false)))))] []) A105_1)
def an105 : List An := []
theorem c105 : cC Try.prog Try.f105.ntmps an105 (Try.f105.body.getD .skip) = some A105 := by kernel_rfl
structure H105 (D : Den) (σ : Sig) (F : Nat) : Prop where
  c106 : ∀ (x0 : (S1 (List Int))) (x1 : Int) r, i_net_closed F x0 x1 = some r → D 106 [Enc.enc x0, Enc.enc x1] = some (Enc.enc (r : Int))
  g106 : σ 106 = some (0, false)
abbrev R105 (r : Bool) : (Nat → V) → Prop := RR Try.prog [.tmp 4] 0 false (Enc.enc (r : Bool))
section
variable {D : Den} {σ : Sig} {F : Nat} {r : Bool}
def i_net_isClique_1 (F : Nat) (x_1 : Int) (rf_2 : (Rf Int)) (rf_3 : (Rf (S1 (List Int)))) : Option Bool :=
  (i_net_closed F rf_3.v x_1).bind fun r_4 =>
  some ((iandNot .i64 rf_2.v r_4) != 0)
theorem t105 (H : H105 D σ F) (x_1 : Int) (rf_2 : (Rf Int)) (rf_3 : (Rf (S1 (List Int)))) (s : Nat → V) (hs : Facts [(0, (.int .i64 x_1)), (1, (.ref .sh 0 [] (.int .i64 rf_2.v))), (2, (.ref .sh 0 [] (.agg [(Enc.enc (rf_3.v.a : List Int))])))] s) (h : i_net_isClique_1 F x_1 rf_2 rf_3 = some r) : Run D σ (R105 r) (.run A105 []) s := by
  unfold i_net_isClique_1 at h
  obtain ⟨h0, h1, h2⟩ := hs
  refine .seq ?_
  refine run_reg ?_
  refine e_end ?_
  refine g_v0 (.bool false) rfl rfl ?_
  refine g_end ?_
  refine e_end ?_
  refine renew [(0, (.int .i64 x_1)), (1, (.ref .sh 0 [] (.int .i64 rf_2.v))), (2, (.ref .sh 0 [] (.agg [(Enc.enc (rf_3.v.a : List Int))]))), (4, (.bool false))] ⟨h0, h1, h2, rfl⟩ ?_
  rintro s ⟨h0, h1, h2, h4⟩
  refine .nsq ?_
  refine .seq ?_
  refine run_reg ?_
  refine e_end ?_
  refine g_v1 (t := 1) (u := (.ref .sh 0 [] (.int .i64 rf_2.v))) (.int .i64 rf_2.v) h1 rfl rfl ?_
  refine g_v1 (t := 2) (u := (.ref .sh 0 [] (.agg [(Enc.enc (rf_3.v.a : List Int))]))) (.agg [(Enc.enc (rf_3.v.a : List Int))]) h2 rfl rfl ?_
  refine g_v1 (t := 0) (u := (.int .i64 x_1)) (.int .i64 x_1) h0 rfl rfl ?_
  obtain ⟨r_4, E_r_4, h⟩ := bind_some h
  refine g_call (m := 0) (al := false) (r := (Enc.enc (r_4 : Int))) [Enc.enc (rf_3.v : (S1 (List Int))), Enc.enc (x_1 : Int)] (ta_cons (v := (.agg [(Enc.enc (rf_3.v.a : List Int))])) rfl rfl (Enc.erase_enc (rf_3.v : (S1 (List Int)))) (ta_cons (v := (.int .i64 x_1)) rfl rfl rfl ta_nil)) (H.c106 _ _ _ E_r_4) H.g106 rfl rfl rfl rfl ?_
  refine g_v2 (t1 := 5) (t2 := 8) (u1 := (.int .i64 rf_2.v)) (u2 := (.int .i64 r_4)) (.int .i64 (iandNot .i64 rf_2.v r_4)) rfl rfl rfl rfl ?_
  refine g_v1 (t := 9) (u := (.int .i64 (iandNot .i64 rf_2.v r_4))) (.bool ((iandNot .i64 rf_2.v r_4) != 0)) rfl rfl rfl ?_
  refine g_v1 (t := 10) (u := (.bool ((iandNot .i64 rf_2.v r_4) != 0))) (.bool ((iandNot .i64 rf_2.v r_4) != 0)) rfl rfl rfl ?_
  refine g_end ?_
  refine e_end ?_
  refine renew [(4, (.bool ((iandNot .i64 rf_2.v r_4) != 0)))] rfl ?_
  rintro s h4
  refine .nsq ?_
  refine .ret ?_
  have hr := Option.some.inj h
  subst hr
  exact rrA (res_tmp h4) rfl
end
def e105 (F : Nat) : Ent := ⟨105, da (fun (x : (Int × (Rf Int) × (Rf (S1 (List Int))) × Unit)) => i_net_isClique_1 F x.1 x.2.1 x.2.2.1) (fun (r : Bool) => (Enc.enc (r : Bool))), 0, false, selF []⟩
theorem p105 {F : Nat} {x0 : Int} {x1 : (Rf Int)} {x2 : (Rf (S1 (List Int)))} {r : Bool} (h : i_net_isClique_1 F x0 x1 x2 = some r) : (e105 F).den [Enc.enc x0, Arg.arg x1, Arg.arg x2] = some (Enc.enc (r : Bool)) := da_put (f := fun (x : (Int × (Rf Int) × (Rf (S1 (List Int))) × Unit)) => i_net_isClique_1 F x.1 x.2.1 x.2.2.1) (t := fun (r : Bool) => (Enc.enc (r : Bool))) (x0, x1, x2, ()) h
theorem o105 {D : Den} {σ : Sig} {F : Nat} (hF : Fits2 Try.prog D σ) (H : H105 D σ F) : (e105 F).Ok Try.prog := by
  refine ok_of (f := 105) (show unk 105 = 105 from rfl) (fun args r h => ?_) ⟨Try.f105, Try.func105, rfl, rfl⟩
  obtain ⟨⟨x0, x1, x2, _⟩, y, rfl, hy, rfl⟩ := da_open h
  exact contract_run hF (by kernel_rfl) Try.func105 rfl c105 (show 3 ≤ Try.f105.ntmps by decide) (t105 H x0 x1 x2 _ ⟨rfl, rfl, rfl⟩ hy)
/- slices.IndexFunc[[]int,int] -/
def A69s1_5 : AC := (AC.cond (O.t 16) (AC.seq (AC.reg [] [(I.mk (some 17) none false (X.v (A.mov (O.t 5)))), (I.mk (some 4) none false (X.v (A.mov (O.t 17))))] []) AC.ret) AC.skip)
def A69s1_4 : AC := (AC.seq (AC.reg [] [(I.mk (some 11) none false (X.v (A.mov (O.t 1)))), (I.mk (some 12) none false (X.v (A.mov (O.t 0)))), (I.mk (some 13) none false (X.v (A.mov (O.t 5)))), (I.mk (some 14) none false (X.v (A.idx (O.t 12) (O.t 13) 1))), (I.mk (some 15) none false (X.v (A.load Sh.s (O.t 14)))), (I.mk (some 16) none false (X.call (O.t 11) [(O.t 15)]))] []) A69s1_5)
def A69s1_6 : AC := (AC.reg [] [(I.mk (some 18) none false (X.v (A.bin BinOp.add (O.t 8) (O.k (V.int IntKind.i64 (Int.ofNat 1)))))), (I.mk (some 8) none false (X.v (A.mov (O.t 18))))] [])
def A69s1_3 : AC := (AC.seq (AC.block 1 (AC.seq (AC.reg [] [(I.mk (some 10) none false (X.v (A.mov (O.t 8)))), (I.mk (some 5) none false (X.v (A.mov (O.t 10))))] []) A69s1_4)) A69s1_6)
def A69s1_2 : AC := (AC.seq (AC.cond (O.t 9) AC.skip (AC.exit 0)) A69s1_3)
def A69s1_1 : AC := (AC.seq (AC.reg [] [(I.mk (some 9) none false (X.v (A.bin BinOp.lss (O.t 8) (O.t 7))))] []) A69s1_2)
def A69s1_7 : AC := (AC.seq (AC.reg [] [(I.mk (some 4) none false (X.v (A.mov (O.k (V.int IntKind.i64 (Int.negSucc 0))))))] []) AC.ret)
def A69s1_9 : AC := (AC.block 0 (AC.loop A69s1_1))
def A69s1_8 : AC := (AC.seq (AC.seq (AC.reg [] [(I.mk (some 6) none false (X.v (A.mov (O.t 0)))), (I.mk (some 7) none false (X.v (A.len (O.t 6)))), (I.mk (some 8) none false (X.v (A.mov (O.k (V.int IntKind.i64 (Int.ofNat 0))))))] []) A69s1_9) A69s1_7)
def A69s1 : AC := (AC.seq (AC.reg [] [(I.mk (some 4) none false (X.v (A.mov (O.k (V.int IntKind.i64 (Int.ofNat 0))))))] []) A69s1_8)
def an69s1 : List An := []
theorem c69s1 : cC Try.prog Try.f69.ntmps an69s1 (Try.f69.body.getD .skip) = some A69s1 := by kernel_rfl
structure H69s1 (D : Den) (σ : Sig) (F : Nat) : Prop where
  c105 : ∀ (x0 : Int) (x1 : (Rf Int)) (x2 : (Rf (S1 (List Int)))) r, i_net_isClique_1 F x0 x1 x2 = some r → D 105 [Enc.enc x0, Arg.arg x1, Arg.arg x2] = some (Enc.enc (r : Bool))
  g105 : σ 105 = some (0, false)
abbrev R69s1 (r : Int) : (Nat → V) → Prop := RR Try.prog [.tmp 4] 0 false (Enc.enc (r : Int))
section
variable {D : Den} {σ : Sig} {F : Nat} {r : Int}
def slices_IndexFunc_of_i_net_isClique_1_l1 (F : Nat) (s_1 : (List Int)) (f_2 : (Cl 105 Unit ((Rf Int) × (Rf (S1 (List Int))) × Unit)))  : Nat → Int → Option Int
  | 0, _ => none
  | k + 1, t8_5 =>
    bif decide (t8_5 < (s_1.length : Int)) then
      (idx s_1 t8_5).bind fun e_8 =>
      (i_net_isClique_1 F e_8 f_2.env.1 f_2.env.2.1).bind fun r_9 =>
      bif r_9 then
        some t8_5
      else
        (slices_IndexFunc_of_i_net_isClique_1_l1 F s_1 f_2 k) (w64 (t8_5 + 1))
    else
      some (-1)
theorem t_f69s1_l1 (H : H69s1 D σ F) (s_1 : (List Int)) (f_2 : (Cl 105 Unit ((Rf Int) × (Rf (S1 (List Int))) × Unit)))  : ∀ (k : Nat) (t8_5 : Int) (s : Nat → V), Facts [(0, (Enc.enc (s_1 : List Int))), (1, (.fn 105 [] [(.ref .sh 0 [] (.int .i64 f_2.env.1.v)), (.ref .sh 0 [] (.agg [(Enc.enc (f_2.env.2.1.v.a : List Int))]))])), (4, (.int .i64 0)), (7, (.int .i64 (s_1.length : Int))), (8, (.int .i64 t8_5))] s → slices_IndexFunc_of_i_net_isClique_1_l1 F s_1 f_2 k t8_5 = some r → Run D σ (R69s1 r) (.run A69s1_1 [.lp A69s1_1, .bk 0, .sq A69s1_7]) s := by
  intro k
  induction k with
  | zero => intro t8_5 s _ h; exact nomatch (h : (none : Option _) = some r)
  | succ k ih =>
    intro t8_5 s hs h
    rw [slices_IndexFunc_of_i_net_isClique_1_l1] at h
    obtain ⟨h0, h1, h4, h7, h8⟩ := hs
    refine .seq ?_
    refine run_reg ?_
    refine e_end ?_
    refine g_v2 (t1 := 8) (t2 := 7) (u1 := (.int .i64 t8_5)) (u2 := (.int .i64 (s_1.length : Int))) (.bool (decide (t8_5 < (s_1.length : Int)))) h8 h7 rfl rfl ?_
    refine g_end ?_
    refine e_end ?_
    refine renew [(0, (Enc.enc (s_1 : List Int))), (1, (.fn 105 [] [(.ref .sh 0 [] (.int .i64 f_2.env.1.v)), (.ref .sh 0 [] (.agg [(Enc.enc (f_2.env.2.1.v.a : List Int))]))])), (4, (.int .i64 0)), (7, (.int .i64 (s_1.length : Int))), (8, (.int .i64 t8_5)), (9, (.bool (decide (t8_5 < (s_1.length : Int)))))] ⟨h0, h1, h4, h7, h8, rfl⟩ ?_
    rintro s ⟨h0, h1, h4, h7, h8, h9⟩
    refine .nsq ?_
    refine .seq ?_
    refine run_cond (t := decide (t8_5 < (s_1.length : Int))) h9 h (fun h => ?_) (fun h => ?_)
    · refine .skip ?_
      refine .nsq ?_
      refine .seq ?_
      refine .block ?_
      refine .seq ?_
      refine run_reg ?_
      refine e_end ?_
      refine g_v1 (t := 8) (u := (.int .i64 t8_5)) (.int .i64 t8_5) h8 rfl rfl ?_
      refine g_v1 (t := 10) (u := (.int .i64 t8_5)) (.int .i64 t8_5) rfl rfl rfl ?_
      refine g_end ?_
      refine e_end ?_
      refine renew [(0, (Enc.enc (s_1 : List Int))), (1, (.fn 105 [] [(.ref .sh 0 [] (.int .i64 f_2.env.1.v)), (.ref .sh 0 [] (.agg [(Enc.enc (f_2.env.2.1.v.a : List Int))]))])), (4, (.int .i64 0)), (5, (.int .i64 t8_5)), (7, (.int .i64 (s_1.length : Int))), (8, (.int .i64 t8_5))] ⟨h0, h1, h4, rfl, h7, h8⟩ ?_
      rintro s ⟨h0, h1, h4, h5, h7, h8⟩
      refine .nsq ?_
      refine .seq ?_
      refine run_reg ?_
      refine e_end ?_
      refine g_v1 (t := 1) (u := (.fn 105 [] [(.ref .sh 0 [] (.int .i64 f_2.env.1.v)), (.ref .sh 0 [] (.agg [(Enc.enc (f_2.env.2.1.v.a : List Int))]))])) (.fn 105 [] [(.ref .sh 0 [] (.int .i64 f_2.env.1.v)), (.ref .sh 0 [] (.agg [(Enc.enc (f_2.env.2.1.v.a : List Int))]))]) h1 rfl rfl ?_
      refine g_v1 (t := 0) (u := (Enc.enc (s_1 : List Int))) (Enc.enc (s_1 : List Int)) h0 rfl rfl ?_
      refine g_v1 (t := 5) (u := (.int .i64 t8_5)) (.int .i64 t8_5) h5 rfl rfl ?_
      obtain ⟨e_8, E_e_8, h⟩ := bind_some h
      refine g_v (.ref .sh 0 [] (.int .i64 e_8)) (ev_idx (t := .sh) (lo := 0) (xs := s_1) rfl rfl E_e_8 rfl rfl) ?_
      refine g_v1 (t := 14) (u := (.ref .sh 0 [] (.int .i64 e_8))) (.int .i64 e_8) rfl rfl rfl ?_
      obtain ⟨r_9, E_r_9, h⟩ := bind_some h
      refine g_callF (m := 0) (al := false) (r := (Enc.enc (r_9 : Bool))) (fs := []) (env := [(.ref .sh 0 [] (.int .i64 f_2.env.1.v)), (.ref .sh 0 [] (.agg [(Enc.enc (f_2.env.2.1.v.a : List Int))]))]) (us := []) (ws := [Arg.arg (f_2.env.1 : (Rf Int)), Arg.arg (f_2.env.2.1 : (Rf (S1 (List Int))))]) rfl erases_nil (erases_cons (erase_ref rfl) (erases_cons (erase_ref (Enc.erase_enc (f_2.env.2.1.v : (S1 (List Int))))) erases_nil)) rfl [Enc.enc (e_8 : Int)] (ta_cons (v := (.int .i64 e_8)) rfl rfl rfl ta_nil) (H.c105 _ _ _ _ E_r_9) H.g105 rfl rfl rfl rfl ?_
      refine g_end ?_
      refine e_end ?_
      refine renew [(0, (Enc.enc (s_1 : List Int))), (1, (.fn 105 [] [(.ref .sh 0 [] (.int .i64 f_2.env.1.v)), (.ref .sh 0 [] (.agg [(Enc.enc (f_2.env.2.1.v.a : List Int))]))])), (4, (.int .i64 0)), (5, (.int .i64 t8_5)), (7, (.int .i64 (s_1.length : Int))), (8, (.int .i64 t8_5)), (16, (.bool r_9))] ⟨h0, h1, h4, h5, h7, h8, rfl⟩ ?_
      rintro s ⟨h0, h1, h4, h5, h7, h8, h16⟩
      refine .nsq ?_
      refine run_cond (t := r_9) h16 h (fun h => ?_) (fun h => ?_)
      · refine .seq ?_
        refine run_reg ?_
        refine e_end ?_
        refine g_v1 (t := 5) (u := (.int .i64 t8_5)) (.int .i64 t8_5) h5 rfl rfl ?_
        refine g_v1 (t := 17) (u := (.int .i64 t8_5)) (.int .i64 t8_5) rfl rfl rfl ?_
        refine g_end ?_
        refine e_end ?_
        refine renew [(0, (Enc.enc (s_1 : List Int))), (1, (.fn 105 [] [(.ref .sh 0 [] (.int .i64 f_2.env.1.v)), (.ref .sh 0 [] (.agg [(Enc.enc (f_2.env.2.1.v.a : List Int))]))])), (4, (.int .i64 t8_5)), (7, (.int .i64 (s_1.length : Int))), (8, (.int .i64 t8_5))] ⟨h0, h1, rfl, h7, h8⟩ ?_
        rintro s ⟨h0, h1, h4, h7, h8⟩
        refine .nsq ?_
        refine .ret ?_
        have hr := Option.some.inj h
        subst hr
        exact rrA (res_tmp h4) rfl
      · refine .skip ?_
        refine .nbk ?_
        refine .nsq ?_
        refine run_reg ?_
        refine e_end ?_
        refine g_v1 (t := 8) (u := (.int .i64 t8_5)) (.int .i64 (w64 (t8_5 + 1))) h8 rfl rfl ?_
        refine g_v1 (t := 18) (u := (.int .i64 (w64 (t8_5 + 1)))) (.int .i64 (w64 (t8_5 + 1))) rfl rfl rfl ?_
        refine g_end ?_
        refine e_end ?_
        refine renew [(0, (Enc.enc (s_1 : List Int))), (1, (.fn 105 [] [(.ref .sh 0 [] (.int .i64 f_2.env.1.v)), (.ref .sh 0 [] (.agg [(Enc.enc (f_2.env.2.1.v.a : List Int))]))])), (4, (.int .i64 0)), (7, (.int .i64 (s_1.length : Int))), (8, (.int .i64 (w64 (t8_5 + 1))))] ⟨h0, h1, h4, h7, rfl⟩ ?_
        rintro s ⟨h0, h1, h4, h7, h8⟩
        refine .nlp ?_
        exact ih (w64 (t8_5 + 1)) _ ⟨h0, h1, h4, h7, h8⟩ h
    · refine .exit ?_
      refine .esq ?_
      refine .elp ?_
      refine .ebk ?_
      refine .nsq ?_
      refine .seq ?_
      refine run_reg ?_
      refine e_end ?_
      refine g_v0 (.int .i64 (-1)) rfl rfl ?_
      refine g_end ?_
      refine e_end ?_
      refine renew [(4, (.int .i64 (-1)))] rfl ?_
      rintro s h4
      refine .nsq ?_
      refine .ret ?_
      have hr := Option.some.inj h
      subst hr
      exact rrA (res_tmp h4) rfl
def slices_IndexFunc_of_i_net_isClique_1 (F : Nat) (s_1 : (List Int)) (f_2 : (Cl 105 Unit ((Rf Int) × (Rf (S1 (List Int))) × Unit))) : Option Int :=
  slices_IndexFunc_of_i_net_isClique_1_l1 F s_1 f_2 F 0
theorem t69s1 (H : H69s1 D σ F) (s_1 : (List Int)) (f_2 : (Cl 105 Unit ((Rf Int) × (Rf (S1 (List Int))) × Unit))) (s : Nat → V) (hs : Facts [(0, (Enc.enc (s_1 : List Int))), (1, (.fn 105 [] [(.ref .sh 0 [] (.int .i64 f_2.env.1.v)), (.ref .sh 0 [] (.agg [(Enc.enc (f_2.env.2.1.v.a : List Int))]))]))] s) (h : slices_IndexFunc_of_i_net_isClique_1 F s_1 f_2 = some r) : Run D σ (R69s1 r) (.run A69s1 []) s := by
  unfold slices_IndexFunc_of_i_net_isClique_1 at h
  obtain ⟨h0, h1⟩ := hs
  refine .seq ?_
  refine run_reg ?_
  refine e_end ?_
  refine g_v0 (.int .i64 0) rfl rfl ?_
  refine g_end ?_
  refine e_end ?_
  refine renew [(0, (Enc.enc (s_1 : List Int))), (1, (.fn 105 [] [(.ref .sh 0 [] (.int .i64 f_2.env.1.v)), (.ref .sh 0 [] (.agg [(Enc.enc (f_2.env.2.1.v.a : List Int))]))])), (4, (.int .i64 0))] ⟨h0, h1, rfl⟩ ?_
  rintro s ⟨h0, h1, h4⟩
  refine .nsq ?_
  refine .seq ?_
  refine .seq ?_
  refine run_reg ?_
  refine e_end ?_
  refine g_v1 (t := 0) (u := (Enc.enc (s_1 : List Int))) (Enc.enc (s_1 : List Int)) h0 rfl rfl ?_
  refine g_v (.int .i64 (s_1.length : Int)) (ev_len (xs := s_1) rfl) ?_
  refine g_v0 (.int .i64 0) rfl rfl ?_
  refine g_end ?_
  refine e_end ?_
  refine renew [(0, (Enc.enc (s_1 : List Int))), (1, (.fn 105 [] [(.ref .sh 0 [] (.int .i64 f_2.env.1.v)), (.ref .sh 0 [] (.agg [(Enc.enc (f_2.env.2.1.v.a : List Int))]))])), (4, (.int .i64 0)), (7, (.int .i64 (s_1.length : Int))), (8, (.int .i64 0))] ⟨h0, h1, h4, rfl, rfl⟩ ?_
  rintro s ⟨h0, h1, h4, h7, h8⟩
  refine .nsq ?_
  refine .block ?_
  refine .loop ?_
  exact t_f69s1_l1 H s_1 f_2 F 0 _ ⟨h0, h1, h4, h7, h8⟩ h
end
def e69s1 (F : Nat) : Ent := ⟨69, da (fun (x : ((List Int) × (Cl 105 Unit ((Rf Int) × (Rf (S1 (List Int))) × Unit)) × Unit)) => slices_IndexFunc_of_i_net_isClique_1 F x.1 x.2.1) (fun (r : Int) => (Enc.enc (r : Int))), 0, false, selF [(1, 105)]⟩
theorem p69s1 {F : Nat} {x0 : (List Int)} {x1 : (Cl 105 Unit ((Rf Int) × (Rf (S1 (List Int))) × Unit))} {r : Int} (h : slices_IndexFunc_of_i_net_isClique_1 F x0 x1 = some r) : (e69s1 F).den [Enc.enc x0, Arg.arg x1] = some (Enc.enc (r : Int)) := da_put (f := fun (x : ((List Int) × (Cl 105 Unit ((Rf Int) × (Rf (S1 (List Int))) × Unit)) × Unit)) => slices_IndexFunc_of_i_net_isClique_1 F x.1 x.2.1) (t := fun (r : Int) => (Enc.enc (r : Int))) (x0, x1, ()) h
theorem o69s1 {D : Den} {σ : Sig} {F : Nat} (hF : Fits2 Try.prog D σ) (H : H69s1 D σ F) : (e69s1 F).Ok Try.prog := by
  refine ok_of (f := 69) (show unk 69 = 69 from rfl) (fun args r h => ?_) ⟨Try.f69, Try.func69, rfl, rfl⟩
  obtain ⟨⟨x0, x1, _⟩, y, rfl, hy, rfl⟩ := da_open h
  exact contract_run hF (by kernel_rfl) Try.func69 rfl c69s1 (show 2 ≤ Try.f69.ntmps by decide) (t69s1 H x0 x1 _ ⟨rfl, rfl⟩ hy)
/- slices.ContainsFunc[[]int,int] -/
def A104s1_1 : AC := (AC.seq (AC.reg [] [(I.mk (some 5) none false (X.v (A.mov (O.t 0)))), (I.mk (some 6) none false (X.v (A.mov (O.t 1)))), (I.mk (some 7) none false (X.call (O.k (V.fn 69 [] [])) [(O.t 5), (O.t 6)])), (I.mk (some 8) none false (X.v (A.bin BinOp.geq (O.t 7) (O.k (V.int IntKind.i64 (Int.ofNat 0)))))), (I.mk (some 4) none false (X.v (A.mov (O.t 8))))] []) AC.ret)
def A104s1 : AC := (AC.seq (AC.reg [] [(I.mk (some 4) none false (X.v (A.mov (O.k (V.bool false)))))] []) A104s1_1)
def an104s1 : List An := []
theorem c104s1 : cC Try.prog Try.f104.ntmps an104s1 (Try.f104.body.getD .skip) = some A104s1 := by kernel_rfl
structure H104s1 (D : Den) (σ : Sig) (F : Nat) : Prop where
  c69s1 : ∀ (x0 : (List Int)) (x1 : (Cl 105 Unit ((Rf Int) × (Rf (S1 (List Int))) × Unit))) r, slices_IndexFunc_of_i_net_isClique_1 F x0 x1 = some r → D 69 [Enc.enc x0, Arg.arg x1] = some (Enc.enc (r : Int))
  g69s1 : σ 69 = some (0, false)
abbrev R104s1 (r : Bool) : (Nat → V) → Prop := RR Try.prog [.tmp 4] 0 false (Enc.enc (r : Bool))
section
variable {D : Den} {σ : Sig} {F : Nat} {r : Bool}
def slices_ContainsFunc_of_i_net_isClique_1 (F : Nat) (s_1 : (List Int)) (f_2 : (Cl 105 Unit ((Rf Int) × (Rf (S1 (List Int))) × Unit))) : Option Bool :=
  (slices_IndexFunc_of_i_net_isClique_1 F s_1 f_2).bind fun r_3 =>
  some (decide (r_3 ≥ 0))
theorem t104s1 (H : H104s1 D σ F) (s_1 : (List Int)) (f_2 : (Cl 105 Unit ((Rf Int) × (Rf (S1 (List Int))) × Unit))) (s : Nat → V) (hs : Facts [(0, (Enc.enc (s_1 : List Int))), (1, (.fn 105 [] [(.ref .sh 0 [] (.int .i64 f_2.env.1.v)), (.ref .sh 0 [] (.agg [(Enc.enc (f_2.env.2.1.v.a : List Int))]))]))] s) (h : slices_ContainsFunc_of_i_net_isClique_1 F s_1 f_2 = some r) : Run D σ (R104s1 r) (.run A104s1 []) s := by
  unfold slices_ContainsFunc_of_i_net_isClique_1 at h
  obtain ⟨h0, h1⟩ := hs
  refine .seq ?_
  refine run_reg ?_
  refine e_end ?_
  refine g_v0 (.bool false) rfl rfl ?_
  refine g_end ?_
  refine e_end ?_
  refine renew [(0, (Enc.enc (s_1 : List Int))), (1, (.fn 105 [] [(.ref .sh 0 [] (.int .i64 f_2.env.1.v)), (.ref .sh 0 [] (.agg [(Enc.enc (f_2.env.2.1.v.a : List Int))]))])), (4, (.bool false))] ⟨h0, h1, rfl⟩ ?_
  rintro s ⟨h0, h1, h4⟩
  refine .nsq ?_
  refine .seq ?_
  refine run_reg ?_
  refine e_end ?_
  refine g_v1 (t := 0) (u := (Enc.enc (s_1 : List Int))) (Enc.enc (s_1 : List Int)) h0 rfl rfl ?_
  refine g_v1 (t := 1) (u := (.fn 105 [] [(.ref .sh 0 [] (.int .i64 f_2.env.1.v)), (.ref .sh 0 [] (.agg [(Enc.enc (f_2.env.2.1.v.a : List Int))]))])) (.fn 105 [] [(.ref .sh 0 [] (.int .i64 f_2.env.1.v)), (.ref .sh 0 [] (.agg [(Enc.enc (f_2.env.2.1.v.a : List Int))]))]) h1 rfl rfl ?_
  obtain ⟨r_3, E_r_3, h⟩ := bind_some h
  refine g_call (m := 0) (al := false) (r := (Enc.enc (r_3 : Int))) [Enc.enc (s_1 : (List Int)), Arg.arg (f_2 : (Cl 105 Unit ((Rf Int) × (Rf (S1 (List Int))) × Unit)))] (ta_cons (v := (Enc.enc (s_1 : List Int))) rfl rfl (Enc.erase_enc (s_1 : (List Int))) (ta_cons (v := (.fn 105 [] [(.ref .sh 0 [] (.int .i64 f_2.env.1.v)), (.ref .sh 0 [] (.agg [(Enc.enc (f_2.env.2.1.v.a : List Int))]))])) rfl rfl (erase_fn erases_nil (erases_cons (erase_ref rfl) (erases_cons (erase_ref (Enc.erase_enc (f_2.env.2.1.v : (S1 (List Int))))) erases_nil))) ta_nil)) (H.c69s1 _ _ _ E_r_3) H.g69s1 rfl rfl rfl rfl ?_
  refine g_v1 (t := 7) (u := (.int .i64 r_3)) (.bool (decide (r_3 ≥ 0))) rfl rfl rfl ?_
  refine g_v1 (t := 8) (u := (.bool (decide (r_3 ≥ 0)))) (.bool (decide (r_3 ≥ 0))) rfl rfl rfl ?_
  refine g_end ?_
  refine e_end ?_
  refine renew [(4, (.bool (decide (r_3 ≥ 0))))] rfl ?_
  rintro s h4
  refine .nsq ?_
  refine .ret ?_
  have hr := Option.some.inj h
  subst hr
  exact rrA (res_tmp h4) rfl
end
def e104s1 (F : Nat) : Ent := ⟨104, da (fun (x : ((List Int) × (Cl 105 Unit ((Rf Int) × (Rf (S1 (List Int))) × Unit)) × Unit)) => slices_ContainsFunc_of_i_net_isClique_1 F x.1 x.2.1) (fun (r : Bool) => (Enc.enc (r : Bool))), 0, false, selF [(1, 105)]⟩
theorem p104s1 {F : Nat} {x0 : (List Int)} {x1 : (Cl 105 Unit ((Rf Int) × (Rf (S1 (List Int))) × Unit))} {r : Bool} (h : slices_ContainsFunc_of_i_net_isClique_1 F x0 x1 = some r) : (e104s1 F).den [Enc.enc x0, Arg.arg x1] = some (Enc.enc (r : Bool)) := da_put (f := fun (x : ((List Int) × (Cl 105 Unit ((Rf Int) × (Rf (S1 (List Int))) × Unit)) × Unit)) => slices_ContainsFunc_of_i_net_isClique_1 F x.1 x.2.1) (t := fun (r : Bool) => (Enc.enc (r : Bool))) (x0, x1, ()) h
theorem o104s1 {D : Den} {σ : Sig} {F : Nat} (hF : Fits2 Try.prog D σ) (H : H104s1 D σ F) : (e104s1 F).Ok Try.prog := by
  refine ok_of (f := 104) (show unk 104 = 104 from rfl) (fun args r h => ?_) ⟨Try.f104, Try.func104, rfl, rfl⟩
  obtain ⟨⟨x0, x1, _⟩, y, rfl, hy, rfl⟩ := da_open h
  exact contract_run hF (by kernel_rfl) Try.func104 rfl c104s1 (show 2 ≤ Try.f104.ntmps by decide) (t104s1 H x0 x1 _ ⟨rfl, rfl⟩ hy)
/- (loop.example/g01109/impl.net).isClique -/
def A61_1 : AC := (AC.seq (AC.reg [] [(I.mk (some 5) none false (X.v (A.load Sh.s (O.t 3)))), (I.mk (some 6) none false (X.call (O.k (V.fn 60 [] [])) [(O.t 5)])), (I.mk (some 7) none false (X.v (A.fn 105 [] [(O.t 3), (O.t 2)]))), (I.mk (some 8) none false (X.call (O.k (V.fn 104 [] [])) [(O.t 6), (O.t 7)])), (I.mk (some 9) none false (X.v (A.un UnOp.not (O.t 8)))), (I.mk (some 4) none false (X.v (A.mov (O.t 9))))] []) AC.ret)
def A61 : AC := (AC.seq (AC.reg [.clr [2, 3]] [(I.mk (some 2) none false (X.box (O.t 0))), (I.mk (some 3) none false (X.box (O.t 1))), (I.mk (some 4) none false (X.v (A.mov (O.k (V.bool false)))))] []) A61_1)
def an61 : List An := [{ id := 0, pre := [.clr [2, 3]], ep := [], lin := [], sp := [] }]
theorem c61 : cC Try.prog Try.f61.ntmps an61 (Try.f61.body.getD .skip) = some A61 := by kernel_rfl
structure H61 (D : Den) (σ : Sig) (F : Nat) : Prop where
  c60 : ∀ (x0 : Int) r, i_setOf F x0 = some r → D 60 [Enc.enc x0] = some (Enc.enc (r : (List Int)))
  g60 : σ 60 = some (0, false)
  c104s1 : ∀ (x0 : (List Int)) (x1 : (Cl 105 Unit ((Rf Int) × (Rf (S1 (List Int))) × Unit))) r, slices_ContainsFunc_of_i_net_isClique_1 F x0 x1 = some r → D 104 [Enc.enc x0, Arg.arg x1] = some (Enc.enc (r : Bool))
  g104s1 : σ 104 = some (0, false)
abbrev R61 (r : Bool) : (Nat → V) → Prop := RR Try.prog [.tmp 4] 0 false (Enc.enc (r : Bool))
section
variable {D : Den} {σ : Sig} {F : Nat} {r : Bool}
def i_net_isClique (F : Nat) (w_1 : (S1 (List Int))) (set_2 : Int) : Option Bool :=
  (i_setOf F set_2).bind fun r_3 =>
  (slices_ContainsFunc_of_i_net_isClique_1 F r_3 (Cl.mk () ((Rf.mk set_2 : (Rf Int)), (Rf.mk w_1 : (Rf (S1 (List Int)))), ()) : (Cl 105 Unit ((Rf Int) × (Rf (S1 (List Int))) × Unit)))).bind fun r_4 =>
  some (!r_4)
theorem t61 (H : H61 D σ F) (w_1 : (S1 (List Int))) (set_2 : Int) (s : Nat → V) (hs : Facts [(0, (.agg [(Enc.enc (w_1.a : List Int))])), (1, (.int .i64 set_2))] s) (h : i_net_isClique F w_1 set_2 = some r) : Run D σ (R61 r) (.run A61 []) s := by
  unfold i_net_isClique at h
  obtain ⟨h0, h1⟩ := hs
  refine .seq ?_
  refine run_reg ?_
  refine e_clr ?_
  refine e_end ?_
  refine g_box (.agg [(Enc.enc (w_1.a : List Int))]) (rd_of (keep_clear (s := s) (pk := [2, 3]) h0 rfl (map_agg (maps_cons (Enc.map_enc _ (w_1.a : List Int)) maps_nil))) rfl) (gone_clear (s := s) (pk := [2, 3]) (t := 2) rfl) rfl ?_
  refine g_box (.int .i64 set_2) (rd_of (keep_clear (s := s) (pk := [2, 3]) h1 rfl rfl) rfl) (gone_clear (s := s) (pk := [2, 3]) (t := 3) rfl) rfl ?_
  refine g_v0 (.bool false) rfl rfl ?_
  refine g_end ?_
  refine e_end ?_
  refine renew [(2, (.ref (.bx 2) 0 [] (.agg [(Enc.enc (w_1.a : List Int))]))), (3, (.ref (.bx 3) 0 [] (.int .i64 set_2))), (4, (.bool false))] ⟨rfl, rfl, rfl⟩ ?_
  rintro s ⟨h2, h3, h4⟩
  refine .nsq ?_
  refine .seq ?_
  refine run_reg ?_
  refine e_end ?_
  refine g_v1 (t := 3) (u := (.ref (.bx 3) 0 [] (.int .i64 set_2))) (.int .i64 set_2) h3 rfl rfl ?_
  obtain ⟨r_3, E_r_3, h⟩ := bind_some h
  refine g_call (m := 0) (al := false) (r := (Enc.enc (r_3 : (List Int)))) [Enc.enc (set_2 : Int)] (ta_cons (v := (.int .i64 set_2)) rfl rfl rfl ta_nil) (H.c60 _ _ E_r_3) H.g60 rfl rfl rfl rfl ?_
  refine g_v2 (t1 := 3) (t2 := 2) (u1 := (.ref (.bx 3) 0 [] (.int .i64 set_2))) (u2 := (.ref (.bx 2) 0 [] (.agg [(Enc.enc (w_1.a : List Int))]))) (.fn 105 [] [(.ref (.bx 3) 0 [] (.int .i64 set_2)), (.ref (.bx 2) 0 [] (.agg [(Enc.enc (w_1.a : List Int))]))]) h3 h2 rfl rfl ?_
  obtain ⟨r_4, E_r_4, h⟩ := bind_some h
  refine g_call (m := 0) (al := false) (r := (Enc.enc (r_4 : Bool))) [Enc.enc (r_3 : (List Int)), Arg.arg ((Cl.mk () ((Rf.mk set_2 : (Rf Int)), (Rf.mk w_1 : (Rf (S1 (List Int)))), ()) : (Cl 105 Unit ((Rf Int) × (Rf (S1 (List Int))) × Unit))) : (Cl 105 Unit ((Rf Int) × (Rf (S1 (List Int))) × Unit)))] (ta_cons (v := (Enc.enc (r_3 : List Int))) rfl rfl (Enc.erase_enc (r_3 : (List Int))) (ta_cons (v := (.fn 105 [] [(.ref (.bx 3) 0 [] (.int .i64 set_2)), (.ref (.bx 2) 0 [] (.agg [(Enc.enc (w_1.a : List Int))]))])) rfl rfl (erase_fn erases_nil (erases_cons (erase_ref rfl) (erases_cons (erase_ref (Enc.erase_enc (w_1 : (S1 (List Int))))) erases_nil))) ta_nil)) (H.c104s1 _ _ _ E_r_4) H.g104s1 rfl rfl rfl rfl ?_
  refine g_v1 (t := 8) (u := (.bool r_4)) (.bool (!r_4)) rfl rfl rfl ?_
  refine g_v1 (t := 9) (u := (.bool (!r_4))) (.bool (!r_4)) rfl rfl rfl ?_
  refine g_end ?_
  refine e_end ?_
  refine renew [(4, (.bool (!r_4)))] rfl ?_
  rintro s h4
  refine .nsq ?_
  refine .ret ?_
  have hr := Option.some.inj h
  subst hr
  exact rrA (res_tmp h4) rfl
end
def e61 (F : Nat) : Ent := ⟨61, da (fun (x : ((S1 (List Int)) × Int × Unit)) => i_net_isClique F x.1 x.2.1) (fun (r : Bool) => (Enc.enc (r : Bool))), 0, false, selF []⟩
theorem p61 {F : Nat} {x0 : (S1 (List Int))} {x1 : Int} {r : Bool} (h : i_net_isClique F x0 x1 = some r) : (e61 F).den [Enc.enc x0, Enc.enc x1] = some (Enc.enc (r : Bool)) := da_put (f := fun (x : ((S1 (List Int)) × Int × Unit)) => i_net_isClique F x.1 x.2.1) (t := fun (r : Bool) => (Enc.enc (r : Bool))) (x0, x1, ()) h
theorem o61 {D : Den} {σ : Sig} {F : Nat} (hF : Fits2 Try.prog D σ) (H : H61 D σ F) : (e61 F).Ok Try.prog := by
  refine ok_of (f := 61) (show unk 61 = 61 from rfl) (fun args r h => ?_) ⟨Try.f61, Try.func61, rfl, rfl⟩
  obtain ⟨⟨x0, x1, _⟩, y, rfl, hy, rfl⟩ := da_open h
  exact contract_run hF (by kernel_rfl) Try.func61 rfl c61 (show 2 ≤ Try.f61.ntmps by decide) (t61 H x0 x1 _ ⟨rfl, rfl⟩ hy)
/- loop.example/g01109/impl.isBetterSet -/
def A62_1 : AC := (AC.seq (AC.reg [] [(I.mk (some 5) none false (X.v (A.mov (O.t 1)))), (I.mk (some 6) none false (X.v (A.len (O.t 5)))), (I.mk (some 7) none false (X.v (A.mov (O.t 0)))), (I.mk (some 8) none false (X.v (A.len (O.t 7)))), (I.mk (some 9) none false (X.v (A.bin BinOp.gtr (O.t 6) (O.t 8)))), (I.mk (some 10) none false (X.v (A.mov (O.t 9)))), (I.mk (some 11) (some (10, false)) false (X.v (A.mov (O.t 1)))), (I.mk (some 12) (some (10, false)) false (X.v (A.len (O.t 11)))), (I.mk (some 13) (some (10, false)) false (X.v (A.mov (O.t 0)))), (I.mk (some 14) (some (10, false)) false (X.v (A.len (O.t 13)))), (I.mk (some 15) (some (10, false)) false (X.v (A.bin BinOp.eql (O.t 12) (O.t 14)))), (I.mk (some 16) (some (10, false)) false (X.v (A.mov (O.t 15)))), (I.mk (some 17) (some (16, true)) false (X.v (A.mov (O.t 1)))), (I.mk (some 18) (some (16, true)) false (X.v (A.mov (O.t 0)))), (I.mk (some 19) (some (16, true)) false (X.call (O.k (V.fn 101 [] [])) [(O.t 17), (O.t 18)])), (I.mk (some 20) (some (16, true)) false (X.v (A.bin BinOp.lss (O.t 19) (O.k (V.int IntKind.i64 (Int.ofNat 0)))))), (I.mk (some 21) (some (10, false)) false (X.v (A.pick (O.t 16) (O.t 20) (O.k (V.bool false))))), (I.mk (some 22) none false (X.v (A.pick (O.t 10) (O.k (V.bool true)) (O.t 21)))), (I.mk (some 4) none false (X.v (A.mov (O.t 22))))] []) AC.ret)
def A62 : AC := (AC.seq (AC.reg [] [(I.mk (some 4) none false (X.v (A.mov (O.k (V.bool false)))))] []) A62_1)
def an62 : List An := []
theorem c62 : cC Try.prog Try.f62.ntmps an62 (Try.f62.body.getD .skip) = some A62 := by kernel_rfl
structure H62 (D : Den) (σ : Sig) (F : Nat) : Prop where
  c101 : ∀ (x0 : (List Int)) (x1 : (List Int)) r, slices_Compare F x0 x1 = some r → D 101 [Enc.enc x0, Enc.enc x1] = some (Enc.enc (r : Int))
  g101 : σ 101 = some (0, false)
abbrev R62 (r : Bool) : (Nat → V) → Prop := RR Try.prog [.tmp 4] 0 false (Enc.enc (r : Bool))
section
variable {D : Den} {σ : Sig} {F : Nat} {r : Bool}
def i_isBetterSet (F : Nat) (best_1 : (List Int)) (list_2 : (List Int)) : Option Bool :=
  bif decide ((list_2.length : Int) > (best_1.length : Int)) then
    some true
  else
    bif ((list_2.length : Int) == (best_1.length : Int)) then
      (slices_Compare F list_2 best_1).bind fun r_3 =>
      some (decide (r_3 < 0))
    else
      some false
theorem t62 (H : H62 D σ F) (best_1 : (List Int)) (list_2 : (List Int)) (s : Nat → V) (hs : Facts [(0, (Enc.enc (best_1 : List Int))), (1, (Enc.enc (list_2 : List Int)))] s) (h : i_isBetterSet F best_1 list_2 = some r) : Run D σ (R62 r) (.run A62 []) s := by
  unfold i_isBetterSet at h
  obtain ⟨h0, h1⟩ := hs
  refine .seq ?_
  refine run_reg ?_
  refine e_end ?_
  refine g_v0 (.bool false) rfl rfl ?_
  refine g_end ?_
  refine e_end ?_
  refine renew [(0, (Enc.enc (best_1 : List Int))), (1, (Enc.enc (list_2 : List Int))), (4, (.bool false))] ⟨h0, h1, rfl⟩ ?_
  rintro s ⟨h0, h1, h4⟩
  refine .nsq ?_
  refine .seq ?_
  refine run_reg ?_
  refine e_end ?_
  refine g_v1 (t := 1) (u := (Enc.enc (list_2 : List Int))) (Enc.enc (list_2 : List Int)) h1 rfl rfl ?_
  refine g_v (.int .i64 (list_2.length : Int)) (ev_len (xs := list_2) rfl) ?_
  refine g_v1 (t := 0) (u := (Enc.enc (best_1 : List Int))) (Enc.enc (best_1 : List Int)) h0 rfl rfl ?_
  refine g_v (.int .i64 (best_1.length : Int)) (ev_len (xs := best_1) rfl) ?_
  refine g_v2 (t1 := 6) (t2 := 8) (u1 := (.int .i64 (list_2.length : Int))) (u2 := (.int .i64 (best_1.length : Int))) (.bool (decide ((list_2.length : Int) > (best_1.length : Int)))) rfl rfl rfl rfl ?_
  refine g_v1 (t := 9) (u := (.bool (decide ((list_2.length : Int) > (best_1.length : Int))))) (.bool (decide ((list_2.length : Int) > (best_1.length : Int)))) rfl rfl rfl ?_
  refine split_on (c := decide ((list_2.length : Int) > (best_1.length : Int))) h (fun hg6 h => ?_) (fun hg6 h => ?_)
  · refine g_no (Eq.trans (b := .bool (decide ((list_2.length : Int) > (best_1.length : Int)))) rfl (congrArg V.bool hg6)) ?_
    refine g_no (Eq.trans (b := .bool (decide ((list_2.length : Int) > (best_1.length : Int)))) rfl (congrArg V.bool hg6)) ?_
    refine g_no (Eq.trans (b := .bool (decide ((list_2.length : Int) > (best_1.length : Int)))) rfl (congrArg V.bool hg6)) ?_
    refine g_no (Eq.trans (b := .bool (decide ((list_2.length : Int) > (best_1.length : Int)))) rfl (congrArg V.bool hg6)) ?_
    refine g_no (Eq.trans (b := .bool (decide ((list_2.length : Int) > (best_1.length : Int)))) rfl (congrArg V.bool hg6)) ?_
    refine g_no (Eq.trans (b := .bool (decide ((list_2.length : Int) > (best_1.length : Int)))) rfl (congrArg V.bool hg6)) ?_
    refine g_skip rfl ?_
    refine g_skip rfl ?_
    refine g_skip rfl ?_
    refine g_skip rfl ?_
    refine g_no (Eq.trans (b := .bool (decide ((list_2.length : Int) > (best_1.length : Int)))) rfl (congrArg V.bool hg6)) ?_
    refine g_v2 (t1 := 10) (t2 := 21) (u1 := (.bool true)) (u2 := (.tup [])) (.bool true) (Eq.trans (b := .bool (decide ((list_2.length : Int) > (best_1.length : Int)))) rfl (congrArg V.bool hg6)) rfl rfl rfl ?_
    refine g_v1 (t := 22) (u := (.bool true)) (.bool true) rfl rfl rfl ?_
    refine g_end ?_
    refine e_end ?_
    refine renew [(4, (.bool true))] rfl ?_
    rintro s h4
    refine .nsq ?_
    refine .ret ?_
    have hr := Option.some.inj h
    subst hr
    exact rrA (res_tmp h4) rfl
  · refine g_yes (Eq.trans (b := .bool (decide ((list_2.length : Int) > (best_1.length : Int)))) rfl (congrArg V.bool hg6)) (g_v1 (t := 1) (u := (Enc.enc (list_2 : List Int))) (Enc.enc (list_2 : List Int)) h1 rfl rfl ?_)
    refine g_yes (Eq.trans (b := .bool (decide ((list_2.length : Int) > (best_1.length : Int)))) rfl (congrArg V.bool hg6)) (g_v (.int .i64 (list_2.length : Int)) (ev_len (xs := list_2) rfl) ?_)
    refine g_yes (Eq.trans (b := .bool (decide ((list_2.length : Int) > (best_1.length : Int)))) rfl (congrArg V.bool hg6)) (g_v1 (t := 0) (u := (Enc.enc (best_1 : List Int))) (Enc.enc (best_1 : List Int)) h0 rfl rfl ?_)
    refine g_yes (Eq.trans (b := .bool (decide ((list_2.length : Int) > (best_1.length : Int)))) rfl (congrArg V.bool hg6)) (g_v (.int .i64 (best_1.length : Int)) (ev_len (xs := best_1) rfl) ?_)
    refine g_yes (Eq.trans (b := .bool (decide ((list_2.length : Int) > (best_1.length : Int)))) rfl (congrArg V.bool hg6)) (g_v2 (t1 := 12) (t2 := 14) (u1 := (.int .i64 (list_2.length : Int))) (u2 := (.int .i64 (best_1.length : Int))) (.bool ((list_2.length : Int) == (best_1.length : Int))) rfl rfl rfl rfl ?_)
    refine g_yes (Eq.trans (b := .bool (decide ((list_2.length : Int) > (best_1.length : Int)))) rfl (congrArg V.bool hg6)) (g_v1 (t := 15) (u := (.bool ((list_2.length : Int) == (best_1.length : Int)))) (.bool ((list_2.length : Int) == (best_1.length : Int))) rfl rfl rfl ?_)
    refine split_on (c := ((list_2.length : Int) == (best_1.length : Int))) h (fun hg12 h => ?_) (fun hg12 h => ?_)
    · refine g_yes (Eq.trans (b := .bool ((list_2.length : Int) == (best_1.length : Int))) rfl (congrArg V.bool hg12)) (g_v1 (t := 1) (u := (Enc.enc (list_2 : List Int))) (Enc.enc (list_2 : List Int)) h1 rfl rfl ?_)
      refine g_yes (Eq.trans (b := .bool ((list_2.length : Int) == (best_1.length : Int))) rfl (congrArg V.bool hg12)) (g_v1 (t := 0) (u := (Enc.enc (best_1 : List Int))) (Enc.enc (best_1 : List Int)) h0 rfl rfl ?_)
      obtain ⟨r_3, E_r_3, h⟩ := bind_some h
      refine g_yes (Eq.trans (b := .bool ((list_2.length : Int) == (best_1.length : Int))) rfl (congrArg V.bool hg12)) (g_call (m := 0) (al := false) (r := (Enc.enc (r_3 : Int))) [Enc.enc (list_2 : (List Int)), Enc.enc (best_1 : (List Int))] (ta_cons (v := (Enc.enc (list_2 : List Int))) rfl rfl (Enc.erase_enc (list_2 : (List Int))) (ta_cons (v := (Enc.enc (best_1 : List Int))) rfl rfl (Enc.erase_enc (best_1 : (List Int))) ta_nil)) (H.c101 _ _ _ E_r_3) H.g101 rfl rfl rfl rfl ?_)
      refine g_yes (Eq.trans (b := .bool ((list_2.length : Int) == (best_1.length : Int))) rfl (congrArg V.bool hg12)) (g_v1 (t := 19) (u := (.int .i64 r_3)) (.bool (decide (r_3 < 0))) rfl rfl rfl ?_)
      refine g_yes (Eq.trans (b := .bool (decide ((list_2.length : Int) > (best_1.length : Int)))) rfl (congrArg V.bool hg6)) (g_v2 (t1 := 16) (t2 := 20) (u1 := (.bool true)) (u2 := (.bool (decide (r_3 < 0)))) (.bool (decide (r_3 < 0))) (Eq.trans (b := .bool ((list_2.length : Int) == (best_1.length : Int))) rfl (congrArg V.bool hg12)) rfl rfl rfl ?_)
      refine g_v2 (t1 := 10) (t2 := 21) (u1 := (.bool false)) (u2 := (.bool (decide (r_3 < 0)))) (.bool (decide (r_3 < 0))) (Eq.trans (b := .bool (decide ((list_2.length : Int) > (best_1.length : Int)))) rfl (congrArg V.bool hg6)) rfl rfl rfl ?_
      refine g_v1 (t := 22) (u := (.bool (decide (r_3 < 0)))) (.bool (decide (r_3 < 0))) rfl rfl rfl ?_
      refine g_end ?_
      refine e_end ?_
      refine renew [(4, (.bool (decide (r_3 < 0))))] rfl ?_
      rintro s h4
      refine .nsq ?_
      refine .ret ?_
      have hr := Option.some.inj h
      subst hr
      exact rrA (res_tmp h4) rfl
    · refine g_no (Eq.trans (b := .bool ((list_2.length : Int) == (best_1.length : Int))) rfl (congrArg V.bool hg12)) ?_
      refine g_no (Eq.trans (b := .bool ((list_2.length : Int) == (best_1.length : Int))) rfl (congrArg V.bool hg12)) ?_
      refine g_no (Eq.trans (b := .bool ((list_2.length : Int) == (best_1.length : Int))) rfl (congrArg V.bool hg12)) ?_
      refine g_no (Eq.trans (b := .bool ((list_2.length : Int) == (best_1.length : Int))) rfl (congrArg V.bool hg12)) ?_
      refine g_yes (Eq.trans (b := .bool (decide ((list_2.length : Int) > (best_1.length : Int)))) rfl (congrArg V.bool hg6)) (g_v2 (t1 := 16) (t2 := 20) (u1 := (.bool false)) (u2 := (.tup [])) (.bool false) (Eq.trans (b := .bool ((list_2.length : Int) == (best_1.length : Int))) rfl (congrArg V.bool hg12)) rfl rfl rfl ?_)
      refine g_v2 (t1 := 10) (t2 := 21) (u1 := (.bool false)) (u2 := (.bool false)) (.bool false) (Eq.trans (b := .bool (decide ((list_2.length : Int) > (best_1.length : Int)))) rfl (congrArg V.bool hg6)) rfl rfl rfl ?_
      refine g_v1 (t := 22) (u := (.bool false)) (.bool false) rfl rfl rfl ?_
      refine g_end ?_
      refine e_end ?_
      refine renew [(4, (.bool false))] rfl ?_
      rintro s h4
      refine .nsq ?_
      refine .ret ?_
      have hr := Option.some.inj h
      subst hr
      exact rrA (res_tmp h4) rfl
end
def e62 (F : Nat) : Ent := ⟨62, da (fun (x : ((List Int) × (List Int) × Unit)) => i_isBetterSet F x.1 x.2.1) (fun (r : Bool) => (Enc.enc (r : Bool))), 0, false, selF []⟩
theorem p62 {F : Nat} {x0 : (List Int)} {x1 : (List Int)} {r : Bool} (h : i_isBetterSet F x0 x1 = some r) : (e62 F).den [Enc.enc x0, Enc.enc x1] = some (Enc.enc (r : Bool)) := da_put (f := fun (x : ((List Int) × (List Int) × Unit)) => i_isBetterSet F x.1 x.2.1) (t := fun (r : Bool) => (Enc.enc (r : Bool))) (x0, x1, ()) h
theorem o62 {D : Den} {σ : Sig} {F : Nat} (hF : Fits2 Try.prog D σ) (H : H62 D σ F) : (e62 F).Ok Try.prog := by
  refine ok_of (f := 62) (show unk 62 = 62 from rfl) (fun args r h => ?_) ⟨Try.f62, Try.func62, rfl, rfl⟩
  obtain ⟨⟨x0, x1, _⟩, y, rfl, hy, rfl⟩ := da_open h
  exact contract_run hF (by kernel_rfl) Try.func62 rfl c62 (show 2 ≤ Try.f62.ntmps by decide) (t62 H x0 x1 _ ⟨rfl, rfl⟩ hy)
/- loop.example/g01109/impl.setOf -/
def A60o_2 : AC := (AC.cond (O.t 8) AC.skip (AC.exit 0))
def A60o_4 : AC := (AC.cond (O.t 15) (AC.reg [.clr [18, 19]] [(I.mk (some 16) none false (X.v (A.mov (O.t 3)))), (I.mk (some 17) none false (X.v (A.mov (O.t 4)))), (I.mk (some 18) none false (X.lit (V.int IntKind.i64 (Int.ofNat 0)) 1 [(0, 0, (O.t 17))])), (I.mk (some 19) none false (X.app Sh.s (O.t 16) (O.t 18))), (I.mk (some 3) none false (X.v (A.mov (O.t 19))))] [.home 19 3]) AC.skip)
def A60o_5 : AC := (AC.reg [] [(I.mk (some 9) none false (X.v (A.mov (O.t 4)))), (I.mk (some 10) none false (X.v (A.bin BinOp.add (O.t 9) (O.k (V.int IntKind.i64 (Int.ofNat 1)))))), (I.mk (some 4) none false (X.v (A.mov (O.t 10))))] [])
def A60o_3 : AC := (AC.seq (AC.block 1 (AC.seq (AC.reg [] [(I.mk (some 11) none false (X.v (A.mov (O.t 0)))), (I.mk (some 12) none false (X.v (A.mov (O.t 4)))), (I.mk (some 13) none false (X.v (A.bin BinOp.shr (O.t 11) (O.t 12)))), (I.mk (some 14) none false (X.v (A.bin BinOp.and (O.t 13) (O.k (V.int IntKind.i64 (Int.ofNat 1)))))), (I.mk (some 15) none false (X.v (A.bin BinOp.eql (O.t 14) (O.k (V.int IntKind.i64 (Int.ofNat 1))))))] []) A60o_4)) A60o_5)
def A60o_1 : AC := (AC.seq (AC.seq (AC.reg [] [(I.mk (some 5) none false (X.v (A.mov (O.t 0)))), (I.mk (some 6) none false (X.v (A.mov (O.t 4)))), (I.mk (some 7) none false (X.v (A.bin BinOp.shr (O.t 5) (O.t 6)))), (I.mk (some 8) none false (X.v (A.bin BinOp.neq (O.t 7) (O.k (V.int IntKind.i64 (Int.ofNat 0))))))] []) A60o_2) A60o_3)
def A60o_6 : AC := (AC.seq (AC.reg [] [(I.mk (some 20) none false (X.v (A.mov (O.t 3)))), (I.mk (some 2) none false (X.v (A.mov (O.t 20))))] [.home 3 2]) AC.ret)
def A60o_9 : AC := (AC.block 0 (AC.loop A60o_1))
def A60o_8 : AC := (AC.seq (AC.seq (AC.reg [] [(I.mk (some 4) none false (X.v (A.mov (O.k (V.int IntKind.i64 (Int.ofNat 0))))))] []) A60o_9) A60o_6)
def A60o_7 : AC := (AC.seq (AC.reg [] [(I.mk (some 3) none false (X.v (A.mov (O.k (V.sl Tok.nl Sh.s 0 [])))))] []) A60o_8)
def A60o : AC := (AC.seq (AC.reg [] [(I.mk (some 2) none false (X.v (A.mov (O.k (V.sl Tok.nl Sh.s 0 [])))))] []) A60o_7)
def an60o : List An := [{ id := 6, pre := [.clr [18, 19]], ep := [.home 19 3], lin := [], sp := [] }, { id := 7, pre := [], ep := [.home 3 2], lin := [], sp := [] }]
theorem c60o : cC Try.prog Try.f60.ntmps an60o (Try.f60.body.getD .skip) = some A60o := by kernel_rfl
structure H60o (D : Den) (σ : Sig) (F : Nat) : Prop where
  mk ::
abbrev R60o (r : (NL Int)) : (Nat → V) → Prop := RR Try.prog [.tmp 2] 1 false (encO .sh (r : NL Int))
section
variable {D : Den} {σ : Sig} {F : Nat} {r : (NL Int)}
def i_setOf_o_j1 (F : Nat) (set_1 : Int) (x_8 : Int) (c1 : (NL Int) → Int → Option (NL Int)) (list_17 : (NL Int)) : Option (NL Int) :=
  c1 list_17 (w64 (x_8 + 1))
theorem t_f60o_j1 (H : H60o D σ F) (set_1 : Int) (x_8 : Int) (c1 : (NL Int) → Int → Option (NL Int)) (Hc1 : ∀ (list_7 : (NL Int)) (x_8 : Int) (s : Nat → V), Facts [(0, (.int .i64 set_1)), (2, (.sl .nl (Enc.shp Int) 0 [])), (3, (encO (.at 3 []) (list_7 : NL Int))), (4, (.int .i64 x_8))] s → c1 list_7 x_8 = some r → Run D σ (R60o r) (.run A60o_1 [.lp A60o_1, .bk 0, .sq A60o_6]) s) (list_17 : (NL Int)) (s : Nat → V) (hs : Facts [(0, (.int .i64 set_1)), (2, (.sl .nl (Enc.shp Int) 0 [])), (3, (encO (.at 3 []) (list_17 : NL Int))), (4, (.int .i64 x_8))] s) (h : i_setOf_o_j1 F set_1 x_8 c1 list_17 = some r) : Run D σ (R60o r) (.nrm [.bk 1, .sq A60o_5, .lp A60o_1, .bk 0, .sq A60o_6]) s := by
  unfold i_setOf_o_j1 at h
  obtain ⟨h0, h2, h3, h4⟩ := hs
  refine .nbk ?_
  refine .nsq ?_
  refine run_reg ?_
  refine e_end ?_
  refine g_v1 (t := 4) (u := (.int .i64 x_8)) (.int .i64 x_8) h4 rfl rfl ?_
  refine g_v1 (t := 9) (u := (.int .i64 x_8)) (.int .i64 (w64 (x_8 + 1))) rfl rfl rfl ?_
  refine g_v1 (t := 10) (u := (.int .i64 (w64 (x_8 + 1)))) (.int .i64 (w64 (x_8 + 1))) rfl rfl rfl ?_
  refine g_end ?_
  refine e_end ?_
  refine renew [(0, (.int .i64 set_1)), (2, (.sl .nl (Enc.shp Int) 0 [])), (3, (encO (.at 3 []) (list_17 : NL Int))), (4, (.int .i64 (w64 (x_8 + 1))))] ⟨h0, h2, h3, rfl⟩ ?_
  rintro s ⟨h0, h2, h3, h4⟩
  refine .nlp ?_
  exact Hc1 list_17 (w64 (x_8 + 1)) _ ⟨h0, h2, h3, h4⟩ h
def i_setOf_o_l1 (F : Nat) (set_1 : Int)  : Nat → (NL Int) → Int → Option (NL Int)
  | 0, _, _ => none
  | k + 1, list_7, x_8 =>
    (shrI .i64 set_1 x_8).bind fun q_14 =>
    bif (q_14 != 0) then
      (shrI .i64 set_1 x_8).bind fun q_15 =>
      bif ((iand .i64 q_15 1) == 1) then
        (appL list_7.list [x_8]).bind fun ap_18 =>
        i_setOf_o_j1 F set_1 x_8 (i_setOf_o_l1 F set_1 k) (.of ap_18)
      else
        i_setOf_o_j1 F set_1 x_8 (i_setOf_o_l1 F set_1 k) list_7
    else
      some list_7
theorem t_f60o_l1 (H : H60o D σ F) (set_1 : Int)  : ∀ (k : Nat) (list_7 : (NL Int)) (x_8 : Int) (s : Nat → V), Facts [(0, (.int .i64 set_1)), (2, (.sl .nl (Enc.shp Int) 0 [])), (3, (encO (.at 3 []) (list_7 : NL Int))), (4, (.int .i64 x_8))] s → i_setOf_o_l1 F set_1 k list_7 x_8 = some r → Run D σ (R60o r) (.run A60o_1 [.lp A60o_1, .bk 0, .sq A60o_6]) s := by
  intro k
  induction k with
  | zero => intro list_7 x_8 s _ h; exact nomatch (h : (none : Option _) = some r)
  | succ k ih =>
    intro list_7 x_8 s hs h
    rw [i_setOf_o_l1] at h
    obtain ⟨h0, h2, h3, h4⟩ := hs
    refine .seq ?_
    refine .seq ?_
    refine run_reg ?_
    refine e_end ?_
    refine g_v1 (t := 0) (u := (.int .i64 set_1)) (.int .i64 set_1) h0 rfl rfl ?_
    refine g_v1 (t := 4) (u := (.int .i64 x_8)) (.int .i64 x_8) h4 rfl rfl ?_
    obtain ⟨q_14, E_q_14, h⟩ := bind_some h
    refine g_v (.int .i64 q_14) (ev_shr rfl rfl E_q_14) ?_
    refine g_v1 (t := 7) (u := (.int .i64 q_14)) (.bool (q_14 != 0)) rfl rfl rfl ?_
    refine g_end ?_
    refine e_end ?_
    refine renew [(0, (.int .i64 set_1)), (2, (.sl .nl (Enc.shp Int) 0 [])), (3, (encO (.at 3 []) (list_7 : NL Int))), (4, (.int .i64 x_8)), (8, (.bool (q_14 != 0)))] ⟨h0, h2, h3, h4, rfl⟩ ?_
    rintro s ⟨h0, h2, h3, h4, h8⟩
    refine .nsq ?_
    refine run_cond (t := (q_14 != 0)) h8 h (fun h => ?_) (fun h => ?_)
    · refine .skip ?_
      refine .nsq ?_
      refine .seq ?_
      refine .block ?_
      refine .seq ?_
      refine run_reg ?_
      refine e_end ?_
      refine g_v1 (t := 0) (u := (.int .i64 set_1)) (.int .i64 set_1) h0 rfl rfl ?_
      refine g_v1 (t := 4) (u := (.int .i64 x_8)) (.int .i64 x_8) h4 rfl rfl ?_
      obtain ⟨q_15, E_q_15, h⟩ := bind_some h
      refine g_v (.int .i64 q_15) (ev_shr rfl rfl E_q_15) ?_
      refine g_v1 (t := 13) (u := (.int .i64 q_15)) (.int .i64 (iand .i64 q_15 1)) rfl rfl rfl ?_
      refine g_v1 (t := 14) (u := (.int .i64 (iand .i64 q_15 1))) (.bool ((iand .i64 q_15 1) == 1)) rfl rfl rfl ?_
      refine g_end ?_
      refine e_end ?_
      refine renew [(0, (.int .i64 set_1)), (2, (.sl .nl (Enc.shp Int) 0 [])), (3, (encO (.at 3 []) (list_7 : NL Int))), (4, (.int .i64 x_8)), (15, (.bool ((iand .i64 q_15 1) == 1)))] ⟨h0, h2, h3, h4, rfl⟩ ?_
      rintro s ⟨h0, h2, h3, h4, h15⟩
      refine .nsq ?_
      refine run_cond (t := ((iand .i64 q_15 1) == 1)) h15 h (fun h => ?_) (fun h => ?_)
      · refine run_reg ?_
        refine e_clr ?_
        refine e_end ?_
        refine g_v (encO (.at 3 []) (list_7 : NL Int)) (ev_mov (keep_clear (s := s) (pk := [18, 19]) h3 rfl (map_encO (r := 3) (p := []) rfl rfl)) ok_encO) ?_
        refine g_v1 (t := 4) (u := (.int .i64 x_8)) (.int .i64 x_8) (keep_clear (s := s) (pk := [18, 19]) h4 rfl rfl) rfl rfl ?_
        refine g_litL [(17, (.int .i64 x_8))] [Enc.enc (x_8 : Int)] rfl rfl rfl (gone_clear (s := s) (pk := [18, 19]) (t := 18) rfl) ?_
        obtain ⟨ap_18, E_ap_18, h⟩ := bind_some h
        refine g_app (q := 3) (p := []) (o := (list_7 : NL Int)) (ys := ([x_8] : List Int)) (t2 := (.at 18 [])) (lo2 := 0) rfl rfl rfl (gone_clear (s := s) (pk := [18, 19]) (t := 19) rfl) (appN_L (o := (list_7 : NL Int)) E_ap_18 (by split <;> simp)) (fun s_17 ha_17 => ?_)
        refine g_v1 (t := 19) (u := (encO (.at 19 []) (.of (ap_18 : List Int)))) (encO (.at 19 []) (.of (ap_18 : List Int))) rfl rfl rfl ?_
        refine g_end ?_
        refine e_home (r := 19) (x := 3) (v := (encO (.at 19 []) (.of (ap_18 : List Int)))) (by exact rfl) rfl (fun s_18 hg_18 => ?_)
        refine e_end ?_
        refine renew [(0, (.int .i64 set_1)), (2, (.sl .nl (Enc.shp Int) 0 [])), (3, (encO (.at 3 []) (.of (ap_18 : List Int)))), (4, (.int .i64 x_8))] ⟨(hg_18 0 (.int .i64 set_1) (.int .i64 set_1) (show s_17 0 = (.int .i64 set_1) from keep_app ha_17 (keep_clear (s := s) (pk := [18, 19]) h0 rfl rfl) rfl) rfl), (hg_18 2 (.sl .nl (Enc.shp Int) 0 []) (.sl .nl (Enc.shp Int) 0 []) (show s_17 2 = (.sl .nl (Enc.shp Int) 0 []) from keep_app ha_17 (keep_clear (s := s) (pk := [18, 19]) h2 rfl rfl) rfl) rfl), (hg_18 3 (encO (.at 19 []) (.of (ap_18 : List Int))) (encO (.at 3 []) (.of (ap_18 : List Int))) rfl (map_encO (r := 19) (p := []) rfl rfl)), (hg_18 4 (.int .i64 x_8) (.int .i64 x_8) (show s_17 4 = (.int .i64 x_8) from keep_app ha_17 (keep_clear (s := s) (pk := [18, 19]) h4 rfl rfl) rfl) rfl)⟩ ?_
        rintro s ⟨h0, h2, h3, h4⟩
        exact t_f60o_j1 H set_1 x_8 (i_setOf_o_l1 F set_1 k) ih (.of ap_18) _ ⟨h0, h2, h3, h4⟩ h
      · refine .skip ?_
        exact t_f60o_j1 H set_1 x_8 (i_setOf_o_l1 F set_1 k) ih list_7 _ ⟨h0, h2, h3, h4⟩ h
    · refine .exit ?_
      refine .esq ?_
      refine .elp ?_
      refine .ebk ?_
      refine .nsq ?_
      refine .seq ?_
      refine run_reg ?_
      refine e_end ?_
      refine g_v (encO (.at 3 []) (list_7 : NL Int)) (ev_mov h3 ok_encO) ?_
      refine g_v (encO (.at 3 []) (list_7 : NL Int)) (ev_mov rfl ok_encO) ?_
      refine g_end ?_
      refine e_home (r := 3) (x := 2) (v := (encO (.at 3 []) (list_7 : NL Int))) (by exact rfl) ok_encO (fun s_19 hg_19 => ?_)
      refine e_end ?_
      refine renew [(2, (encO (.at 2 []) (list_7 : NL Int)))] (hg_19 2 (encO (.at 3 []) (list_7 : NL Int)) (encO (.at 2 []) (list_7 : NL Int)) rfl (map_encO (r := 3) (p := []) rfl rfl)) ?_
      rintro s h2
      refine .nsq ?_
      refine .ret ?_
      have hr := Option.some.inj h
      subst hr
      exact rrA (res_tmp h2) (fin_retO (finO_own (o := (list_7 : NL Int))) rfl (mine_own rfl))
def i_setOf_o (F : Nat) (set_1 : Int) : Option (NL Int) :=
  i_setOf_o_l1 F set_1 F .nil 0
theorem t60o (H : H60o D σ F) (set_1 : Int) (s : Nat → V) (hs : Facts [(0, (.int .i64 set_1))] s) (h : i_setOf_o F set_1 = some r) : Run D σ (R60o r) (.run A60o []) s := by
  unfold i_setOf_o at h
  have h0 := hs
  refine .seq ?_
  refine run_reg ?_
  refine e_end ?_
  refine g_v0 (.sl .nl (Enc.shp Int) 0 []) rfl rfl ?_
  refine g_end ?_
  refine e_end ?_
  refine renew [(0, (.int .i64 set_1)), (2, (.sl .nl (Enc.shp Int) 0 []))] ⟨h0, rfl⟩ ?_
  rintro s ⟨h0, h2⟩
  refine .nsq ?_
  refine .seq ?_
  refine run_reg ?_
  refine e_end ?_
  refine g_v0 (.sl .nl (Enc.shp Int) 0 []) rfl rfl ?_
  refine g_end ?_
  refine e_end ?_
  refine renew [(0, (.int .i64 set_1)), (2, (.sl .nl (Enc.shp Int) 0 [])), (3, (.sl .nl (Enc.shp Int) 0 []))] ⟨h0, h2, rfl⟩ ?_
  rintro s ⟨h0, h2, h3⟩
  refine .nsq ?_
  refine .seq ?_
  refine .seq ?_
  refine run_reg ?_
  refine e_end ?_
  refine g_v0 (.int .i64 0) rfl rfl ?_
  refine g_end ?_
  refine e_end ?_
  refine renew [(0, (.int .i64 set_1)), (2, (.sl .nl (Enc.shp Int) 0 [])), (3, (.sl .nl (Enc.shp Int) 0 [])), (4, (.int .i64 0))] ⟨h0, h2, h3, rfl⟩ ?_
  rintro s ⟨h0, h2, h3, h4⟩
  refine .nsq ?_
  refine .block ?_
  refine .loop ?_
  exact t_f60o_l1 H set_1 F .nil 0 _ ⟨h0, h2, h3, h4⟩ h
end
def e60o (F : Nat) : Ent := ⟨1000000060, da (fun (x : (Int × Unit)) => i_setOf_o F x.1) (fun (r : (NL Int)) => (encO .sh (r : NL Int))), 1, false, selF []⟩
theorem p60o {F : Nat} {x0 : Int} {r : (NL Int)} (h : i_setOf_o F x0 = some r) : (e60o F).den [Enc.enc x0] = some (encO .sh (r : NL Int)) := da_put (f := fun (x : (Int × Unit)) => i_setOf_o F x.1) (t := fun (r : (NL Int)) => (encO .sh (r : NL Int))) (x0, ()) h
theorem o60o {D : Den} {σ : Sig} {F : Nat} (hF : Fits2 Try.prog D σ) (H : H60o D σ F) : (e60o F).Ok Try.prog := by
  refine ok_of (f := 60) (show unk 1000000060 = 60 from rfl) (fun args r h => ?_) ⟨Try.f60, Try.func60, rfl, rfl⟩
  obtain ⟨⟨x0, _⟩, y, rfl, hy, rfl⟩ := da_open h
  exact contract_run hF (by kernel_rfl) Try.func60 rfl c60o (show 1 ≤ Try.f60.ntmps by decide) (t60o H x0 _ rfl hy)
/- loop.example/g01109/impl.CliqueOf -/
def A25o_6 : AC := (AC.cond (O.t 28) (AC.reg [] [(I.mk (some 29) none false (X.v (A.mov (O.t 7)))), (I.mk (some 5) none false (X.v (A.mov (O.t 29))))] [.home 7 5]) AC.skip)
def A25o_5 : AC := (AC.seq (AC.reg [] [(I.mk (some 21) none false (X.v (A.load (Sh.ag [Sh.p]) (O.t 4)))), (I.mk (some 22) none false (X.v (A.mov (O.t 6)))), (I.mk (some 23) none false (X.call (O.k (V.fn 61 [] [])) [(O.t 21), (O.t 22)])), (I.mk (some 24) none false (X.v (A.mov (O.t 23)))), (I.mk (some 25) (some (24, true)) false (X.v (A.mov (O.t 5)))), (I.mk (some 26) (some (24, true)) false (X.v (A.mov (O.t 7)))), (I.mk (some 27) (some (24, true)) false (X.call (O.k (V.fn 62 [] [])) [(O.t 25), (O.t 26)])), (I.mk (some 28) none false (X.v (A.pick (O.t 24) (O.t 27) (O.k (V.bool false)))))] []) A25o_6)
def A25o_4 : AC := (AC.seq (AC.reg [.clr [20]] [(I.mk (some 19) none false (X.v (A.mov (O.t 6)))), (I.mk (some 20) none false (X.callO (O.k (V.fn 60 [] [])) [(O.t 19)])), (I.mk (some 7) none false (X.v (A.mov (O.t 20))))] [.home 20 7]) A25o_5)
def A25o_7 : AC := (AC.reg [] [(I.mk (some 30) none false (X.v (A.bin BinOp.add (O.t 16) (O.k (V.int IntKind.i64 (Int.ofNat 1)))))), (I.mk (some 16) none false (X.v (A.mov (O.t 30))))] [])
def A25o_3 : AC := (AC.seq (AC.block 1 (AC.seq (AC.reg [] [(I.mk (some 18) none false (X.v (A.mov (O.t 16)))), (I.mk (some 6) none false (X.v (A.mov (O.t 18))))] []) A25o_4)) A25o_7)
def A25o_2 : AC := (AC.seq (AC.cond (O.t 17) AC.skip (AC.exit 0)) A25o_3)
def A25o_1 : AC := (AC.seq (AC.reg [] [(I.mk (some 17) none false (X.v (A.bin BinOp.lss (O.t 16) (O.t 15))))] []) A25o_2)
def A25o_8 : AC := (AC.seq (AC.reg [] [(I.mk (some 31) none false (X.v (A.mov (O.t 5)))), (I.mk (some 2) none false (X.v (A.mov (O.t 31)))), (I.mk (some 3) none false (X.v (A.mov (O.k (V.bool true)))))] [.home 5 2]) AC.ret)
def A25o_10 : AC := (AC.cond (O.t 10) (AC.seq (AC.reg [] [(I.mk (some 2) none false (X.v (A.mov (O.k (V.sl Tok.nl Sh.s 0 []))))), (I.mk (some 3) none false (X.v (A.mov (O.k (V.bool false)))))] []) AC.ret) AC.skip)
def A25o_14 : AC := (AC.block 0 (AC.loop A25o_1))
def A25o_13 : AC := (AC.seq (AC.seq (AC.reg [] [(I.mk (some 13) none false (X.v (A.load (Sh.ag [Sh.p]) (O.t 4)))), (I.mk (some 14) none false (X.call (O.k (V.fn 59 [] [])) [(O.t 13)])), (I.mk (some 15) none false (X.v (A.bin BinOp.add (O.t 14) (O.k (V.int IntKind.i64 (Int.ofNat 1)))))), (I.mk (some 16) none false (X.v (A.mov (O.k (V.int IntKind.i64 (Int.ofNat 0))))))] []) A25o_14) A25o_8)
def A25o_12 : AC := (AC.seq (AC.reg [] [(I.mk (some 5) none false (X.v (A.mov (O.k (V.sl Tok.nl Sh.s 0 [])))))] []) A25o_13)
def A25o_11 : AC := (AC.seq (AC.reg [.clr [4]] [(I.mk (some 11) none false (X.v (A.load (Sh.ag [Sh.s, Sh.p]) (O.t 1)))), (I.mk (some 12) none false (X.call (O.k (V.fn 52 [] [])) [(O.t 11)])), (I.mk (some 4) none false (X.alloc (V.agg [(V.sl Tok.nl Sh.s 0 [])]))), (I.mk none none false (X.store (Sh.ag [Sh.p]) (O.t 4) (O.t 12)))] []) A25o_12)
def A25o_9 : AC := (AC.seq (AC.seq (AC.reg [] [(I.mk (some 8) none false (X.v (A.load (Sh.ag [Sh.s, Sh.p]) (O.t 1)))), (I.mk (some 9) none false (X.call (O.k (V.fn 51 [] [])) [(O.t 8)])), (I.mk (some 10) none false (X.v (A.un UnOp.not (O.t 9))))] []) A25o_10) A25o_11)
def A25o : AC := (AC.seq (AC.reg [.clr [1]] [(I.mk (some 1) none false (X.box (O.t 0))), (I.mk (some 2) none false (X.v (A.mov (O.k (V.sl Tok.nl Sh.s 0 []))))), (I.mk (some 3) none false (X.v (A.mov (O.k (V.bool false)))))] []) A25o_9)
def an25o : List An := [{ id := 0, pre := [.clr [1]], ep := [], lin := [], sp := [] }, { id := 3, pre := [.clr [4]], ep := [], lin := [], sp := [] }, { id := 8, pre := [.clr [20]], ep := [.home 20 7], lin := [], sp := [1001] }, { id := 10, pre := [], ep := [.home 7 5], lin := [], sp := [] }, { id := 12, pre := [], ep := [.home 5 2], lin := [], sp := [] }]
theorem c25o : cC Try.prog Try.f25.ntmps an25o (Try.f25.body.getD .skip) = some A25o := by kernel_rfl
structure H25o (D : Den) (σ : Sig) (F : Nat) : Prop where
  c51 : ∀ (x0 : (Int × (List (Int × Int)))) r, i_IsGraph F x0 = some r → D 51 [Enc.enc x0] = some (Enc.enc (r : Bool))
  g51 : σ 51 = some (0, false)
  c52 : ∀ (x0 : (Int × (List (Int × Int)))) r, i_netOf F x0 = some r → D 52 [Enc.enc x0] = some (Enc.enc (r : (S1 (List Int))))
  g52 : σ 52 = some (0, false)
  c59 : ∀ (x0 : (S1 (List Int))) r, i_net_all F x0 = some r → D 59 [Enc.enc x0] = some (Enc.enc (r : Int))
  g59 : σ 59 = some (0, false)
  c60o : ∀ (x0 : Int) r, i_setOf_o F x0 = some r → D 1000000060 [Enc.enc x0] = some (encO .sh (r : NL Int))
  g60o : σ 1000000060 = some (1, false)
  c61 : ∀ (x0 : (S1 (List Int))) (x1 : Int) r, i_net_isClique F x0 x1 = some r → D 61 [Enc.enc x0, Enc.enc x1] = some (Enc.enc (r : Bool))
  g61 : σ 61 = some (0, false)
  c62 : ∀ (x0 : (List Int)) (x1 : (List Int)) r, i_isBetterSet F x0 x1 = some r → D 62 [Enc.enc x0, Enc.enc x1] = some (Enc.enc (r : Bool))
  g62 : σ 62 = some (0, false)
abbrev R25o (r : ((NL Int) × Bool)) : (Nat → V) → Prop := RR Try.prog [.tmp 2, .tmp 3] 1 false (.tup [(encO .sh (r.1 : NL Int)), (Enc.enc (r.2 : Bool))])
section
variable {D : Den} {σ : Sig} {F : Nat} {r : ((NL Int) × Bool)}
def i_CliqueOf_o_j1 (F : Nat) (r_3 : (S1 (List Int))) (r_4 : Int) (t16_13 : Int) (c1 : (NL Int) → Int → Option ((NL Int) × Bool)) (best_25 : (NL Int)) : Option ((NL Int) × Bool) :=
  c1 best_25 (w64 (t16_13 + 1))
theorem t_f25o_j1 (H : H25o D σ F) (r_3 : (S1 (List Int))) (r_4 : Int) (t16_13 : Int) (c1 : (NL Int) → Int → Option ((NL Int) × Bool)) (Hc1 : ∀ (best_12 : (NL Int)) (t16_13 : Int) (s : Nat → V), Facts [(2, (.sl .nl (Enc.shp Int) 0 [])), (3, (.bool false)), (4, (.ref (.bx 4) 0 [] (.agg [(Enc.enc (r_3.a : List Int))]))), (5, (encO (.at 5 []) (best_12 : NL Int))), (15, (.int .i64 (w64 (r_4 + 1)))), (16, (.int .i64 t16_13))] s → c1 best_12 t16_13 = some r → Run D σ (R25o r) (.run A25o_1 [.lp A25o_1, .bk 0, .sq A25o_8]) s) (best_25 : (NL Int)) (s : Nat → V) (hs : Facts [(2, (.sl .nl (Enc.shp Int) 0 [])), (3, (.bool false)), (4, (.ref (.bx 4) 0 [] (.agg [(Enc.enc (r_3.a : List Int))]))), (5, (encO (.at 5 []) (best_25 : NL Int))), (15, (.int .i64 (w64 (r_4 + 1)))), (16, (.int .i64 t16_13))] s) (h : i_CliqueOf_o_j1 F r_3 r_4 t16_13 c1 best_25 = some r) : Run D σ (R25o r) (.nrm [.bk 1, .sq A25o_7, .lp A25o_1, .bk 0, .sq A25o_8]) s := by
  unfold i_CliqueOf_o_j1 at h
  obtain ⟨h2, h3, h4, h5, h15, h16⟩ := hs
  refine .nbk ?_
  refine .nsq ?_
  refine run_reg ?_
  refine e_end ?_
  refine g_v1 (t := 16) (u := (.int .i64 t16_13)) (.int .i64 (w64 (t16_13 + 1))) h16 rfl rfl ?_
  refine g_v1 (t := 30) (u := (.int .i64 (w64 (t16_13 + 1)))) (.int .i64 (w64 (t16_13 + 1))) rfl rfl rfl ?_
  refine g_end ?_
  refine e_end ?_
  refine renew [(2, (.sl .nl (Enc.shp Int) 0 [])), (3, (.bool false)), (4, (.ref (.bx 4) 0 [] (.agg [(Enc.enc (r_3.a : List Int))]))), (5, (encO (.at 5 []) (best_25 : NL Int))), (15, (.int .i64 (w64 (r_4 + 1)))), (16, (.int .i64 (w64 (t16_13 + 1))))] ⟨h2, h3, h4, h5, h15, rfl⟩ ?_
  rintro s ⟨h2, h3, h4, h5, h15, h16⟩
  refine .nlp ?_
  exact Hc1 best_25 (w64 (t16_13 + 1)) _ ⟨h2, h3, h4, h5, h15, h16⟩ h
def i_CliqueOf_o_j2 (F : Nat) (r_3 : (S1 (List Int))) (best_12 : (NL Int)) (r_21 : (NL Int)) (r_4 : Int) (t16_13 : Int) (c1 : (NL Int) → Int → Option ((NL Int) × Bool)) (t28_24 : Bool) : Option ((NL Int) × Bool) :=
  bif t28_24 then
    i_CliqueOf_o_j1 F r_3 r_4 t16_13 c1 r_21
  else
    i_CliqueOf_o_j1 F r_3 r_4 t16_13 c1 best_12
theorem t_f25o_j2 (H : H25o D σ F) (r_3 : (S1 (List Int))) (best_12 : (NL Int)) (r_21 : (NL Int)) (r_4 : Int) (t16_13 : Int) (c1 : (NL Int) → Int → Option ((NL Int) × Bool)) (Hc1 : ∀ (best_12 : (NL Int)) (t16_13 : Int) (s : Nat → V), Facts [(2, (.sl .nl (Enc.shp Int) 0 [])), (3, (.bool false)), (4, (.ref (.bx 4) 0 [] (.agg [(Enc.enc (r_3.a : List Int))]))), (5, (encO (.at 5 []) (best_12 : NL Int))), (15, (.int .i64 (w64 (r_4 + 1)))), (16, (.int .i64 t16_13))] s → c1 best_12 t16_13 = some r → Run D σ (R25o r) (.run A25o_1 [.lp A25o_1, .bk 0, .sq A25o_8]) s) (t28_24 : Bool) (s : Nat → V) (hs : Facts [(2, (.sl .nl (Enc.shp Int) 0 [])), (3, (.bool false)), (4, (.ref (.bx 4) 0 [] (.agg [(Enc.enc (r_3.a : List Int))]))), (5, (encO (.at 5 []) (best_12 : NL Int))), (7, (encO (.at 7 []) (r_21 : NL Int))), (15, (.int .i64 (w64 (r_4 + 1)))), (16, (.int .i64 t16_13)), (28, (.bool t28_24))] s) (h : i_CliqueOf_o_j2 F r_3 best_12 r_21 r_4 t16_13 c1 t28_24 = some r) : Run D σ (R25o r) (.nrm [.sq A25o_6, .bk 1, .sq A25o_7, .lp A25o_1, .bk 0, .sq A25o_8]) s := by
  unfold i_CliqueOf_o_j2 at h
  obtain ⟨h2, h3, h4, h5, h7, h15, h16, h28⟩ := hs
  refine .nsq ?_
  refine run_cond (t := t28_24) h28 h (fun h => ?_) (fun h => ?_)
  · refine run_reg ?_
    refine e_end ?_
    refine g_v (encO (.at 7 []) (r_21 : NL Int)) (ev_mov h7 ok_encO) ?_
    refine g_v (encO (.at 7 []) (r_21 : NL Int)) (ev_mov rfl ok_encO) ?_
    refine g_end ?_
    refine e_home (r := 7) (x := 5) (v := (encO (.at 7 []) (r_21 : NL Int))) (by exact rfl) ok_encO (fun s_14 hg_14 => ?_)
    refine e_end ?_
    refine renew [(2, (.sl .nl (Enc.shp Int) 0 [])), (3, (.bool false)), (4, (.ref (.bx 4) 0 [] (.agg [(Enc.enc (r_3.a : List Int))]))), (5, (encO (.at 5 []) (r_21 : NL Int))), (15, (.int .i64 (w64 (r_4 + 1)))), (16, (.int .i64 t16_13))] ⟨(hg_14 2 (.sl .nl (Enc.shp Int) 0 []) (.sl .nl (Enc.shp Int) 0 []) h2 rfl), (hg_14 3 (.bool false) (.bool false) h3 rfl), (hg_14 4 (.ref (.bx 4) 0 [] (.agg [(Enc.enc (r_3.a : List Int))])) (.ref (.bx 4) 0 [] (.agg [(Enc.enc (r_3.a : List Int))])) h4 (map_bx rfl (map_agg (maps_cons (Enc.map_enc _ (r_3.a : List Int)) maps_nil)))), (hg_14 5 (encO (.at 7 []) (r_21 : NL Int)) (encO (.at 5 []) (r_21 : NL Int)) rfl (map_encO (r := 7) (p := []) rfl rfl)), (hg_14 15 (.int .i64 (w64 (r_4 + 1))) (.int .i64 (w64 (r_4 + 1))) h15 rfl), (hg_14 16 (.int .i64 t16_13) (.int .i64 t16_13) h16 rfl)⟩ ?_
    rintro s ⟨h2, h3, h4, h5, h15, h16⟩
    exact t_f25o_j1 H r_3 r_4 t16_13 c1 Hc1 r_21 _ ⟨h2, h3, h4, h5, h15, h16⟩ h
  · refine .skip ?_
    exact t_f25o_j1 H r_3 r_4 t16_13 c1 Hc1 best_12 _ ⟨h2, h3, h4, h5, h15, h16⟩ h
def i_CliqueOf_o_l1 (F : Nat) (r_3 : (S1 (List Int))) (r_4 : Int)  : Nat → (NL Int) → Int → Option ((NL Int) × Bool)
  | 0, _, _ => none
  | k + 1, best_12, t16_13 =>
    bif decide (t16_13 < (w64 (r_4 + 1))) then
      (i_setOf_o F t16_13).bind fun r_21 =>
      (i_net_isClique F r_3 t16_13).bind fun r_26 =>
      bif r_26 then
        (i_isBetterSet F best_12.list r_21.list).bind fun r_27 =>
        i_CliqueOf_o_j2 F r_3 best_12 r_21 r_4 t16_13 (i_CliqueOf_o_l1 F r_3 r_4 k) r_27
      else
        i_CliqueOf_o_j2 F r_3 best_12 r_21 r_4 t16_13 (i_CliqueOf_o_l1 F r_3 r_4 k) false
    else
      some (best_12, true)
theorem t_f25o_l1 (H : H25o D σ F) (r_3 : (S1 (List Int))) (r_4 : Int)  : ∀ (k : Nat) (best_12 : (NL Int)) (t16_13 : Int) (s : Nat → V), Facts [(2, (.sl .nl (Enc.shp Int) 0 [])), (3, (.bool false)), (4, (.ref (.bx 4) 0 [] (.agg [(Enc.enc (r_3.a : List Int))]))), (5, (encO (.at 5 []) (best_12 : NL Int))), (15, (.int .i64 (w64 (r_4 + 1)))), (16, (.int .i64 t16_13))] s → i_CliqueOf_o_l1 F r_3 r_4 k best_12 t16_13 = some r → Run D σ (R25o r) (.run A25o_1 [.lp A25o_1, .bk 0, .sq A25o_8]) s := by
  intro k
  induction k with
  | zero => intro best_12 t16_13 s _ h; exact nomatch (h : (none : Option _) = some r)
  | succ k ih =>
    intro best_12 t16_13 s hs h
    rw [i_CliqueOf_o_l1] at h
    obtain ⟨h2, h3, h4, h5, h15, h16⟩ := hs
    refine .seq ?_
    refine run_reg ?_
    refine e_end ?_
    refine g_v2 (t1 := 16) (t2 := 15) (u1 := (.int .i64 t16_13)) (u2 := (.int .i64 (w64 (r_4 + 1)))) (.bool (decide (t16_13 < (w64 (r_4 + 1))))) h16 h15 rfl rfl ?_
    refine g_end ?_
    refine e_end ?_
    refine renew [(2, (.sl .nl (Enc.shp Int) 0 [])), (3, (.bool false)), (4, (.ref (.bx 4) 0 [] (.agg [(Enc.enc (r_3.a : List Int))]))), (5, (encO (.at 5 []) (best_12 : NL Int))), (15, (.int .i64 (w64 (r_4 + 1)))), (16, (.int .i64 t16_13)), (17, (.bool (decide (t16_13 < (w64 (r_4 + 1))))))] ⟨h2, h3, h4, h5, h15, h16, rfl⟩ ?_
    rintro s ⟨h2, h3, h4, h5, h15, h16, h17⟩
    refine .nsq ?_
    refine .seq ?_
    refine run_cond (t := decide (t16_13 < (w64 (r_4 + 1)))) h17 h (fun h => ?_) (fun h => ?_)
    · refine .skip ?_
      refine .nsq ?_
      refine .seq ?_
      refine .block ?_
      refine .seq ?_
      refine run_reg ?_
      refine e_end ?_
      refine g_v1 (t := 16) (u := (.int .i64 t16_13)) (.int .i64 t16_13) h16 rfl rfl ?_
      refine g_v1 (t := 18) (u := (.int .i64 t16_13)) (.int .i64 t16_13) rfl rfl rfl ?_
      refine g_end ?_
      refine e_end ?_
      refine renew [(2, (.sl .nl (Enc.shp Int) 0 [])), (3, (.bool false)), (4, (.ref (.bx 4) 0 [] (.agg [(Enc.enc (r_3.a : List Int))]))), (5, (encO (.at 5 []) (best_12 : NL Int))), (6, (.int .i64 t16_13)), (15, (.int .i64 (w64 (r_4 + 1)))), (16, (.int .i64 t16_13))] ⟨h2, h3, h4, h5, rfl, h15, h16⟩ ?_
      rintro s ⟨h2, h3, h4, h5, h6, h15, h16⟩
      refine .nsq ?_
      refine .seq ?_
      refine run_reg ?_
      refine e_clr ?_
      refine e_end ?_
      refine g_v1 (t := 6) (u := (.int .i64 t16_13)) (.int .i64 t16_13) (keep_clear (s := s) (pk := [20]) h6 rfl rfl) rfl rfl ?_
      obtain ⟨r_21, E_r_21, h⟩ := bind_some h
      refine g_callO (m := 1) (al := false) (r := (encO .sh (r_21 : NL Int))) (v := (encO (.at 20 []) (r_21 : NL Int))) (kk := 1000000060) [Enc.enc (t16_13 : Int)] (ta_cons (v := (.int .i64 t16_13)) rfl rfl rfl ta_nil) (H.c60o _ _ E_r_21) H.g60o rfl toks_encS tag_encO ok_encP (gone_clear (s := s) (pk := [20]) (t := 20) rfl) ?_
      refine g_v (encO (.at 20 []) (r_21 : NL Int)) (ev_mov rfl ok_encO) ?_
      refine g_end ?_
      refine e_home (r := 20) (x := 7) (v := (encO (.at 20 []) (r_21 : NL Int))) (by exact rfl) ok_encO (fun s_12 hg_12 => ?_)
      refine e_end ?_
      refine renew [(2, (.sl .nl (Enc.shp Int) 0 [])), (3, (.bool false)), (4, (.ref (.bx 4) 0 [] (.agg [(Enc.enc (r_3.a : List Int))]))), (5, (encO (.at 5 []) (best_12 : NL Int))), (6, (.int .i64 t16_13)), (7, (encO (.at 7 []) (r_21 : NL Int))), (15, (.int .i64 (w64 (r_4 + 1)))), (16, (.int .i64 t16_13))] ⟨(hg_12 2 (.sl .nl (Enc.shp Int) 0 []) (.sl .nl (Enc.shp Int) 0 []) (keep_clear (s := s) (pk := [20]) h2 rfl rfl) rfl), (hg_12 3 (.bool false) (.bool false) (keep_clear (s := s) (pk := [20]) h3 rfl rfl) rfl), (hg_12 4 (.ref (.bx 4) 0 [] (.agg [(Enc.enc (r_3.a : List Int))])) (.ref (.bx 4) 0 [] (.agg [(Enc.enc (r_3.a : List Int))])) (keep_clear (s := s) (pk := [20]) h4 rfl (map_bx rfl (map_agg (maps_cons (Enc.map_enc _ (r_3.a : List Int)) maps_nil)))) (map_bx rfl (map_agg (maps_cons (Enc.map_enc _ (r_3.a : List Int)) maps_nil)))), (hg_12 5 (encO (.at 5 []) (best_12 : NL Int)) (encO (.at 5 []) (best_12 : NL Int)) (keep_clear (s := s) (pk := [20]) h5 rfl (map_encO (r := 5) (p := []) rfl rfl)) (map_encO (r := 5) (p := []) rfl rfl)), (hg_12 6 (.int .i64 t16_13) (.int .i64 t16_13) (keep_clear (s := s) (pk := [20]) h6 rfl rfl) rfl), (hg_12 7 (encO (.at 20 []) (r_21 : NL Int)) (encO (.at 7 []) (r_21 : NL Int)) rfl (map_encO (r := 20) (p := []) rfl rfl)), (hg_12 15 (.int .i64 (w64 (r_4 + 1))) (.int .i64 (w64 (r_4 + 1))) (keep_clear (s := s) (pk := [20]) h15 rfl rfl) rfl), (hg_12 16 (.int .i64 t16_13) (.int .i64 t16_13) (keep_clear (s := s) (pk := [20]) h16 rfl rfl) rfl)⟩ ?_
      rintro s ⟨h2, h3, h4, h5, h6, h7, h15, h16⟩
      refine .nsq ?_
      refine .seq ?_
      refine run_reg ?_
      refine e_end ?_
      refine g_v1 (t := 4) (u := (.ref (.bx 4) 0 [] (.agg [(Enc.enc (r_3.a : List Int))]))) (.agg [(Enc.enc (r_3.a : List Int))]) h4 rfl rfl ?_
      refine g_v1 (t := 6) (u := (.int .i64 t16_13)) (.int .i64 t16_13) h6 rfl rfl ?_
      obtain ⟨r_26, E_r_26, h⟩ := bind_some h
      refine g_call (m := 0) (al := false) (r := (Enc.enc (r_26 : Bool))) [Enc.enc (r_3 : (S1 (List Int))), Enc.enc (t16_13 : Int)] (ta_cons (v := (.agg [(Enc.enc (r_3.a : List Int))])) rfl rfl (Enc.erase_enc (r_3 : (S1 (List Int)))) (ta_cons (v := (.int .i64 t16_13)) rfl rfl rfl ta_nil)) (H.c61 _ _ _ E_r_26) H.g61 rfl rfl rfl rfl ?_
      refine g_v1 (t := 23) (u := (.bool r_26)) (.bool r_26) rfl rfl rfl ?_
      refine split_on (c := r_26) h (fun hg4 h => ?_) (fun hg4 h => ?_)
      · refine g_yes (Eq.trans (b := .bool r_26) rfl (congrArg V.bool hg4)) (g_v (encO (.at 5 []) (best_12 : NL Int)) (ev_mov h5 ok_encO) ?_)
        refine g_yes (Eq.trans (b := .bool r_26) rfl (congrArg V.bool hg4)) (g_v (encO (.at 7 []) (r_21 : NL Int)) (ev_mov h7 ok_encO) ?_)
        obtain ⟨r_27, E_r_27, h⟩ := bind_some h
        refine g_yes (Eq.trans (b := .bool r_26) rfl (congrArg V.bool hg4)) (g_call (m := 0) (al := false) (r := (Enc.enc (r_27 : Bool))) [Enc.enc (best_12.list : (List Int)), Enc.enc (r_21.list : (List Int))] (ta_cons (v := (encO (.at 5 []) (best_12 : NL Int))) rfl ok_encP (erase_encO (o := best_12)) (ta_cons (v := (encO (.at 7 []) (r_21 : NL Int))) rfl ok_encP (erase_encO (o := r_21)) ta_nil)) (H.c62 _ _ _ E_r_27) H.g62 rfl rfl rfl rfl ?_)
        refine g_v2 (t1 := 24) (t2 := 27) (u1 := (.bool true)) (u2 := (.bool r_27)) (.bool r_27) (Eq.trans (b := .bool r_26) rfl (congrArg V.bool hg4)) rfl rfl rfl ?_
        refine g_end ?_
        refine e_end ?_
        refine renew [(2, (.sl .nl (Enc.shp Int) 0 [])), (3, (.bool false)), (4, (.ref (.bx 4) 0 [] (.agg [(Enc.enc (r_3.a : List Int))]))), (5, (encO (.at 5 []) (best_12 : NL Int))), (7, (encO (.at 7 []) (r_21 : NL Int))), (15, (.int .i64 (w64 (r_4 + 1)))), (16, (.int .i64 t16_13)), (28, (.bool r_27))] ⟨h2, h3, h4, h5, h7, h15, h16, rfl⟩ ?_
        rintro s ⟨h2, h3, h4, h5, h7, h15, h16, h28⟩
        exact t_f25o_j2 H r_3 best_12 r_21 r_4 t16_13 (i_CliqueOf_o_l1 F r_3 r_4 k) ih r_27 _ ⟨h2, h3, h4, h5, h7, h15, h16, h28⟩ h
      · refine g_no (Eq.trans (b := .bool r_26) rfl (congrArg V.bool hg4)) ?_
        refine g_no (Eq.trans (b := .bool r_26) rfl (congrArg V.bool hg4)) ?_
        refine g_no (Eq.trans (b := .bool r_26) rfl (congrArg V.bool hg4)) ?_
        refine g_v2 (t1 := 24) (t2 := 27) (u1 := (.bool false)) (u2 := (.tup [])) (.bool false) (Eq.trans (b := .bool r_26) rfl (congrArg V.bool hg4)) rfl rfl rfl ?_
        refine g_end ?_
        refine e_end ?_
        refine renew [(2, (.sl .nl (Enc.shp Int) 0 [])), (3, (.bool false)), (4, (.ref (.bx 4) 0 [] (.agg [(Enc.enc (r_3.a : List Int))]))), (5, (encO (.at 5 []) (best_12 : NL Int))), (7, (encO (.at 7 []) (r_21 : NL Int))), (15, (.int .i64 (w64 (r_4 + 1)))), (16, (.int .i64 t16_13)), (28, (.bool false))] ⟨h2, h3, h4, h5, h7, h15, h16, rfl⟩ ?_
        rintro s ⟨h2, h3, h4, h5, h7, h15, h16, h28⟩
        exact t_f25o_j2 H r_3 best_12 r_21 r_4 t16_13 (i_CliqueOf_o_l1 F r_3 r_4 k) ih false _ ⟨h2, h3, h4, h5, h7, h15, h16, h28⟩ h
    · refine .exit ?_
      refine .esq ?_
      refine .elp ?_
      refine .ebk ?_
      refine .nsq ?_
      refine .seq ?_
      refine run_reg ?_
      refine e_end ?_
      refine g_v (encO (.at 5 []) (best_12 : NL Int)) (ev_mov h5 ok_encO) ?_
      refine g_v (encO (.at 5 []) (best_12 : NL Int)) (ev_mov rfl ok_encO) ?_
      refine g_v0 (.bool true) rfl rfl ?_
      refine g_end ?_
      refine e_home (r := 5) (x := 2) (v := (encO (.at 5 []) (best_12 : NL Int))) (by exact rfl) ok_encO (fun s_15 hg_15 => ?_)
      refine e_end ?_
      refine renew [(2, (encO (.at 2 []) (best_12 : NL Int))), (3, (.bool true))] ⟨(hg_15 2 (encO (.at 5 []) (best_12 : NL Int)) (encO (.at 2 []) (best_12 : NL Int)) rfl (map_encO (r := 5) (p := []) rfl rfl)), (hg_15 3 (.bool true) (.bool true) rfl rfl)⟩ ?_
      rintro s ⟨h2, h3⟩
      refine .nsq ?_
      refine .ret ?_
      have hr := Option.some.inj h
      subst hr
      exact rrB (res_tmp h2) (res_tmp h3) (fin_retO (finO_tup (finOs_cons (finO_own (o := (best_12 : NL Int))) (finOs_cons finO_bool finOs_nil))) rfl (mine_tup (mines_cons (mine_own rfl) (mines_cons rfl mines_nil))))
def i_CliqueOf_o (F : Nat) (g_1 : (Int × (List (Int × Int)))) : Option ((NL Int) × Bool) :=
  (i_IsGraph F g_1).bind fun r_2 =>
  bif (!r_2) then
    some (.nil, false)
  else
    (i_netOf F g_1).bind fun r_3 =>
    (i_net_all F r_3).bind fun r_4 =>
    i_CliqueOf_o_l1 F r_3 r_4 F .nil 0
theorem t25o (H : H25o D σ F) (g_1 : (Int × (List (Int × Int)))) (s : Nat → V) (hs : Facts [(0, (.agg [(.int .i64 g_1.1), (Enc.enc (g_1.2 : List (Int × Int)))]))] s) (h : i_CliqueOf_o F g_1 = some r) : Run D σ (R25o r) (.run A25o []) s := by
  unfold i_CliqueOf_o at h
  have h0 := hs
  refine .seq ?_
  refine run_reg ?_
  refine e_clr ?_
  refine e_end ?_
  refine g_box (.agg [(.int .i64 g_1.1), (Enc.enc (g_1.2 : List (Int × Int)))]) (rd_of (keep_clear (s := s) (pk := [1]) h0 rfl (map_agg (maps_cons rfl (maps_cons (Enc.map_enc _ (g_1.2 : List (Int × Int))) maps_nil)))) rfl) (gone_clear (s := s) (pk := [1]) (t := 1) rfl) rfl ?_
  refine g_v0 (.sl .nl (Enc.shp Int) 0 []) rfl rfl ?_
  refine g_v0 (.bool false) rfl rfl ?_
  refine g_end ?_
  refine e_end ?_
  refine renew [(1, (.ref (.bx 1) 0 [] (.agg [(.int .i64 g_1.1), (Enc.enc (g_1.2 : List (Int × Int)))]))), (2, (.sl .nl (Enc.shp Int) 0 [])), (3, (.bool false))] ⟨rfl, rfl, rfl⟩ ?_
  rintro s ⟨h1, h2, h3⟩
  refine .nsq ?_
  refine .seq ?_
  refine .seq ?_
  refine run_reg ?_
  refine e_end ?_
  refine g_v1 (t := 1) (u := (.ref (.bx 1) 0 [] (.agg [(.int .i64 g_1.1), (Enc.enc (g_1.2 : List (Int × Int)))]))) (.agg [(.int .i64 g_1.1), (Enc.enc (g_1.2 : List (Int × Int)))]) h1 rfl rfl ?_
  obtain ⟨r_2, E_r_2, h⟩ := bind_some h
  refine g_call (m := 0) (al := false) (r := (Enc.enc (r_2 : Bool))) [Enc.enc (g_1 : (Int × (List (Int × Int))))] (ta_cons (v := (.agg [(.int .i64 g_1.1), (Enc.enc (g_1.2 : List (Int × Int)))])) rfl rfl (Enc.erase_enc (g_1 : (Int × (List (Int × Int))))) ta_nil) (H.c51 _ _ E_r_2) H.g51 rfl rfl rfl rfl ?_
  refine g_v1 (t := 9) (u := (.bool r_2)) (.bool (!r_2)) rfl rfl rfl ?_
  refine g_end ?_
  refine e_end ?_
  refine renew [(1, (.ref (.bx 1) 0 [] (.agg [(.int .i64 g_1.1), (Enc.enc (g_1.2 : List (Int × Int)))]))), (2, (.sl .nl (Enc.shp Int) 0 [])), (3, (.bool false)), (10, (.bool (!r_2)))] ⟨h1, h2, h3, rfl⟩ ?_
  rintro s ⟨h1, h2, h3, h10⟩
  refine .nsq ?_
  refine run_cond (t := (!r_2)) h10 h (fun h => ?_) (fun h => ?_)
  · refine .seq ?_
    refine run_reg ?_
    refine e_end ?_
    refine g_v0 (.sl .nl (Enc.shp Int) 0 []) rfl rfl ?_
    refine g_v0 (.bool false) rfl rfl ?_
    refine g_end ?_
    refine e_end ?_
    refine renew [(1, (.ref (.bx 1) 0 [] (.agg [(.int .i64 g_1.1), (Enc.enc (g_1.2 : List (Int × Int)))]))), (2, (.sl .nl (Enc.shp Int) 0 [])), (3, (.bool false))] ⟨h1, rfl, rfl⟩ ?_
    rintro s ⟨h1, h2, h3⟩
    refine .nsq ?_
    refine .ret ?_
    have hr := Option.some.inj h
    subst hr
    exact rrB (res_tmp h2) (res_tmp h3) (fin_retO (finO_tup (finOs_cons (finO_nil (α := Int)) (finOs_cons finO_bool finOs_nil))) rfl (mine_tup (mines_cons mine_nil (mines_cons rfl mines_nil))))
  · refine .skip ?_
    refine .nsq ?_
    refine .seq ?_
    refine run_reg ?_
    refine e_clr ?_
    refine e_end ?_
    refine g_v1 (t := 1) (u := (.ref (.bx 1) 0 [] (.agg [(.int .i64 g_1.1), (Enc.enc (g_1.2 : List (Int × Int)))]))) (.agg [(.int .i64 g_1.1), (Enc.enc (g_1.2 : List (Int × Int)))]) (keep_clear (s := s) (pk := [4]) h1 rfl (map_bx rfl (map_agg (maps_cons rfl (maps_cons (Enc.map_enc _ (g_1.2 : List (Int × Int))) maps_nil))))) rfl rfl ?_
    obtain ⟨r_3, E_r_3, h⟩ := bind_some h
    refine g_call (m := 0) (al := false) (r := (Enc.enc (r_3 : (S1 (List Int))))) [Enc.enc (g_1 : (Int × (List (Int × Int))))] (ta_cons (v := (.agg [(.int .i64 g_1.1), (Enc.enc (g_1.2 : List (Int × Int)))])) rfl rfl (Enc.erase_enc (g_1 : (Int × (List (Int × Int))))) ta_nil) (H.c52 _ _ E_r_3) H.g52 rfl rfl rfl rfl ?_
    refine g_alloc (gone_clear (s := s) (pk := [4]) (t := 4) rfl) ?_
    refine g_store (.agg [(Enc.enc (r_3.a : List Int))]) (rd_of rfl rfl) (rd_of rfl rfl) (by refine ⟨by decide, by decide, rfl, rfl, rfl, ?_⟩; first | rfl | simp [V.toks, V.tokss, Enc.toks_enc]) ?_
    refine g_end ?_
    refine e_end ?_
    refine renew [(2, (.sl .nl (Enc.shp Int) 0 [])), (3, (.bool false)), (4, (.ref (.bx 4) 0 [] (.agg [(Enc.enc (r_3.a : List Int))])))] ⟨(keep_mut (keep_clear (s := s) (pk := [4]) h2 rfl rfl) rfl), (keep_mut (keep_clear (s := s) (pk := [4]) h3 rfl rfl) rfl), (keep_mut rfl rfl)⟩ ?_
    rintro s ⟨h2, h3, h4⟩
    refine .nsq ?_
    refine .seq ?_
    refine run_reg ?_
    refine e_end ?_
    refine g_v0 (.sl .nl (Enc.shp Int) 0 []) rfl rfl ?_
    refine g_end ?_
    refine e_end ?_
    refine renew [(2, (.sl .nl (Enc.shp Int) 0 [])), (3, (.bool false)), (4, (.ref (.bx 4) 0 [] (.agg [(Enc.enc (r_3.a : List Int))]))), (5, (.sl .nl (Enc.shp Int) 0 []))] ⟨h2, h3, h4, rfl⟩ ?_
    rintro s ⟨h2, h3, h4, h5⟩
    refine .nsq ?_
    refine .seq ?_
    refine .seq ?_
    refine run_reg ?_
    refine e_end ?_
    refine g_v1 (t := 4) (u := (.ref (.bx 4) 0 [] (.agg [(Enc.enc (r_3.a : List Int))]))) (.agg [(Enc.enc (r_3.a : List Int))]) h4 rfl rfl ?_
    obtain ⟨r_4, E_r_4, h⟩ := bind_some h
    refine g_call (m := 0) (al := false) (r := (Enc.enc (r_4 : Int))) [Enc.enc (r_3 : (S1 (List Int)))] (ta_cons (v := (.agg [(Enc.enc (r_3.a : List Int))])) rfl rfl (Enc.erase_enc (r_3 : (S1 (List Int)))) ta_nil) (H.c59 _ _ E_r_4) H.g59 rfl rfl rfl rfl ?_
    refine g_v1 (t := 14) (u := (.int .i64 r_4)) (.int .i64 (w64 (r_4 + 1))) rfl rfl rfl ?_
    refine g_v0 (.int .i64 0) rfl rfl ?_
    refine g_end ?_
    refine e_end ?_
    refine renew [(2, (.sl .nl (Enc.shp Int) 0 [])), (3, (.bool false)), (4, (.ref (.bx 4) 0 [] (.agg [(Enc.enc (r_3.a : List Int))]))), (5, (.sl .nl (Enc.shp Int) 0 [])), (15, (.int .i64 (w64 (r_4 + 1)))), (16, (.int .i64 0))] ⟨h2, h3, h4, h5, rfl, rfl⟩ ?_
    rintro s ⟨h2, h3, h4, h5, h15, h16⟩
    refine .nsq ?_
    refine .block ?_
    refine .loop ?_
    exact t_f25o_l1 H r_3 r_4 F .nil 0 _ ⟨h2, h3, h4, h5, h15, h16⟩ h
end
def e25o (F : Nat) : Ent := ⟨1000000025, da (fun (x : ((Int × (List (Int × Int))) × Unit)) => i_CliqueOf_o F x.1) (fun (r : ((NL Int) × Bool)) => (.tup [(encO .sh (r.1 : NL Int)), (Enc.enc (r.2 : Bool))])), 1, false, selF []⟩
theorem p25o {F : Nat} {x0 : (Int × (List (Int × Int)))} {r : ((NL Int) × Bool)} (h : i_CliqueOf_o F x0 = some r) : (e25o F).den [Enc.enc x0] = some (.tup [(encO .sh (r.1 : NL Int)), (Enc.enc (r.2 : Bool))]) := da_put (f := fun (x : ((Int × (List (Int × Int))) × Unit)) => i_CliqueOf_o F x.1) (t := fun (r : ((NL Int) × Bool)) => (.tup [(encO .sh (r.1 : NL Int)), (Enc.enc (r.2 : Bool))])) (x0, ()) h
theorem o25o {D : Den} {σ : Sig} {F : Nat} (hF : Fits2 Try.prog D σ) (H : H25o D σ F) : (e25o F).Ok Try.prog := by
  refine ok_of (f := 25) (show unk 1000000025 = 25 from rfl) (fun args r h => ?_) ⟨Try.f25, Try.func25, rfl, rfl⟩
  obtain ⟨⟨x0, _⟩, y, rfl, hy, rfl⟩ := da_open h
  exact contract_run hF (by kernel_rfl) Try.func25 rfl c25o (show 1 ≤ Try.f25.ntmps by decide) (t25o H x0 _ rfl hy)
/- loop.example/g01109/laws.eqIntS -/
def A19_2 : AC := (AC.cond (O.t 14) AC.skip (AC.exit 0))
def A19_4 : AC := (AC.cond (O.t 25) (AC.seq (AC.reg [] [(I.mk (some 4) none false (X.v (A.mov (O.k (V.bool false)))))] []) AC.ret) AC.skip)
def A19_5 : AC := (AC.reg [] [(I.mk (some 15) none false (X.v (A.mov (O.t 5)))), (I.mk (some 16) none false (X.v (A.bin BinOp.add (O.t 15) (O.k (V.int IntKind.i64 (Int.ofNat 1)))))), (I.mk (some 5) none false (X.v (A.mov (O.t 16))))] [])
def A19_3 : AC := (AC.seq (AC.block 1 (AC.seq (AC.reg [] [(I.mk (some 17) none false (X.v (A.mov (O.t 0)))), (I.mk (some 18) none false (X.v (A.mov (O.t 5)))), (I.mk (some 19) none false (X.v (A.idx (O.t 17) (O.t 18) 1))), (I.mk (some 20) none false (X.v (A.load Sh.s (O.t 19)))), (I.mk (some 21) none false (X.v (A.mov (O.t 1)))), (I.mk (some 22) none false (X.v (A.mov (O.t 5)))), (I.mk (some 23) none false (X.v (A.idx (O.t 21) (O.t 22) 1))), (I.mk (some 24) none false (X.v (A.load Sh.s (O.t 23)))), (I.mk (some 25) none false (X.v (A.bin BinOp.neq (O.t 20) (O.t 24))))] []) A19_4)) A19_5)
def A19_1 : AC := (AC.seq (AC.seq (AC.reg [] [(I.mk (some 11) none false (X.v (A.mov (O.t 5)))), (I.mk (some 12) none false (X.v (A.mov (O.t 0)))), (I.mk (some 13) none false (X.v (A.len (O.t 12)))), (I.mk (some 14) none false (X.v (A.bin BinOp.lss (O.t 11) (O.t 13))))] []) A19_2) A19_3)
def A19_6 : AC := (AC.seq (AC.reg [] [(I.mk (some 4) none false (X.v (A.mov (O.k (V.bool true)))))] []) AC.ret)
def A19_8 : AC := (AC.cond (O.t 10) (AC.seq (AC.reg [] [(I.mk (some 4) none false (X.v (A.mov (O.k (V.bool false)))))] []) AC.ret) AC.skip)
def A19_10 : AC := (AC.block 0 (AC.loop A19_1))
def A19_9 : AC := (AC.seq (AC.seq (AC.reg [] [(I.mk (some 5) none false (X.v (A.mov (O.k (V.int IntKind.i64 (Int.ofNat 0))))))] []) A19_10) A19_6)
def A19_7 : AC := (AC.seq (AC.seq (AC.reg [] [(I.mk (some 6) none false (X.v (A.mov (O.t 0)))), (I.mk (some 7) none false (X.v (A.len (O.t 6)))), (I.mk (some 8) none false (X.v (A.mov (O.t 1)))), (I.mk (some 9) none false (X.v (A.len (O.t 8)))), (I.mk (some 10) none false (X.v (A.bin BinOp.neq (O.t 7) (O.t 9))))] []) A19_8) A19_9)
def A19 : AC := (AC.seq (AC.reg [] [(I.mk (some 4) none false (X.v (A.mov (O.k (V.bool false)))))] []) A19_7)
def an19 : List An := []
theorem c19 : cC Try.prog Try.f19.ntmps an19 (Try.f19.body.getD .skip) = some A19 := by kernel_rfl
structure H19 (D : Den) (σ : Sig) (F : Nat) : Prop where
  mk ::
abbrev R19 (r : Bool) : (Nat → V) → Prop := RR Try.prog [.tmp 4] 0 false (Enc.enc (r : Bool))
section
variable {D : Den} {σ : Sig} {F : Nat} {r : Bool}
def w_eqIntS_l1 (F : Nat) (a_1 : (List Int)) (b_2 : (List Int))  : Nat → Int → Option Bool
  | 0, _ => none
  | k + 1, i_5 =>
    bif decide (i_5 < (a_1.length : Int)) then
      (idx a_1 i_5).bind fun e_8 =>
      (idx b_2 i_5).bind fun e_9 =>
      bif (e_8 != e_9) then
        some false
      else
        (w_eqIntS_l1 F a_1 b_2 k) (w64 (i_5 + 1))
    else
      some true
theorem t_f19_l1 (H : H19 D σ F) (a_1 : (List Int)) (b_2 : (List Int))  : ∀ (k : Nat) (i_5 : Int) (s : Nat → V), Facts [(0, (Enc.enc (a_1 : List Int))), (1, (Enc.enc (b_2 : List Int))), (4, (.bool false)), (5, (.int .i64 i_5))] s → w_eqIntS_l1 F a_1 b_2 k i_5 = some r → Run D σ (R19 r) (.run A19_1 [.lp A19_1, .bk 0, .sq A19_6]) s := by
  intro k
  induction k with
  | zero => intro i_5 s _ h; exact nomatch (h : (none : Option _) = some r)
  | succ k ih =>
    intro i_5 s hs h
    rw [w_eqIntS_l1] at h
    obtain ⟨h0, h1, h4, h5⟩ := hs
    refine .seq ?_
    refine .seq ?_
    refine run_reg ?_
    refine e_end ?_
    refine g_v1 (t := 5) (u := (.int .i64 i_5)) (.int .i64 i_5) h5 rfl rfl ?_
    refine g_v1 (t := 0) (u := (Enc.enc (a_1 : List Int))) (Enc.enc (a_1 : List Int)) h0 rfl rfl ?_
    refine g_v (.int .i64 (a_1.length : Int)) (ev_len (xs := a_1) rfl) ?_
    refine g_v2 (t1 := 11) (t2 := 13) (u1 := (.int .i64 i_5)) (u2 := (.int .i64 (a_1.length : Int))) (.bool (decide (i_5 < (a_1.length : Int)))) rfl rfl rfl rfl ?_
    refine g_end ?_
    refine e_end ?_
    refine renew [(0, (Enc.enc (a_1 : List Int))), (1, (Enc.enc (b_2 : List Int))), (4, (.bool false)), (5, (.int .i64 i_5)), (14, (.bool (decide (i_5 < (a_1.length : Int)))))] ⟨h0, h1, h4, h5, rfl⟩ ?_
    rintro s ⟨h0, h1, h4, h5, h14⟩
    refine .nsq ?_
    refine run_cond (t := decide (i_5 < (a_1.length : Int))) h14 h (fun h => ?_) (fun h => ?_)
    · refine .skip ?_
      refine .nsq ?_
      refine .seq ?_
      refine .block ?_
      refine .seq ?_
      refine run_reg ?_
      refine e_end ?_
      refine g_v1 (t := 0) (u := (Enc.enc (a_1 : List Int))) (Enc.enc (a_1 : List Int)) h0 rfl rfl ?_
      refine g_v1 (t := 5) (u := (.int .i64 i_5)) (.int .i64 i_5) h5 rfl rfl ?_
      obtain ⟨e_8, E_e_8, h⟩ := bind_some h
      refine g_v (.ref .sh 0 [] (.int .i64 e_8)) (ev_idx (t := .sh) (lo := 0) (xs := a_1) rfl rfl E_e_8 rfl rfl) ?_
      refine g_v1 (t := 19) (u := (.ref .sh 0 [] (.int .i64 e_8))) (.int .i64 e_8) rfl rfl rfl ?_
      refine g_v1 (t := 1) (u := (Enc.enc (b_2 : List Int))) (Enc.enc (b_2 : List Int)) h1 rfl rfl ?_
      refine g_v1 (t := 5) (u := (.int .i64 i_5)) (.int .i64 i_5) h5 rfl rfl ?_
      obtain ⟨e_9, E_e_9, h⟩ := bind_some h
      refine g_v (.ref .sh 0 [] (.int .i64 e_9)) (ev_idx (t := .sh) (lo := 0) (xs := b_2) rfl rfl E_e_9 rfl rfl) ?_
      refine g_v1 (t := 23) (u := (.ref .sh 0 [] (.int .i64 e_9))) (.int .i64 e_9) rfl rfl rfl ?_
      refine g_v2 (t1 := 20) (t2 := 24) (u1 := (.int .i64 e_8)) (u2 := (.int .i64 e_9)) (.bool (e_8 != e_9)) rfl rfl rfl rfl ?_
      refine g_end ?_
      refine e_end ?_
      refine renew [(0, (Enc.enc (a_1 : List Int))), (1, (Enc.enc (b_2 : List Int))), (4, (.bool false)), (5, (.int .i64 i_5)), (25, (.bool (e_8 != e_9)))] ⟨h0, h1, h4, h5, rfl⟩ ?_
      rintro s ⟨h0, h1, h4, h5, h25⟩
      refine .nsq ?_
      refine run_cond (t := (e_8 != e_9)) h25 h (fun h => ?_) (fun h => ?_)
      · refine .seq ?_
        refine run_reg ?_
        refine e_end ?_
        refine g_v0 (.bool false) rfl rfl ?_
        refine g_end ?_
        refine e_end ?_
        refine renew [(0, (Enc.enc (a_1 : List Int))), (1, (Enc.enc (b_2 : List Int))), (4, (.bool false)), (5, (.int .i64 i_5))] ⟨h0, h1, rfl, h5⟩ ?_
        rintro s ⟨h0, h1, h4, h5⟩
        refine .nsq ?_
        refine .ret ?_
        have hr := Option.some.inj h
        subst hr
        exact rrA (res_tmp h4) rfl
      · refine .skip ?_
        refine .nbk ?_
        refine .nsq ?_
        refine run_reg ?_
        refine e_end ?_
        refine g_v1 (t := 5) (u := (.int .i64 i_5)) (.int .i64 i_5) h5 rfl rfl ?_
        refine g_v1 (t := 15) (u := (.int .i64 i_5)) (.int .i64 (w64 (i_5 + 1))) rfl rfl rfl ?_
        refine g_v1 (t := 16) (u := (.int .i64 (w64 (i_5 + 1)))) (.int .i64 (w64 (i_5 + 1))) rfl rfl rfl ?_
        refine g_end ?_
        refine e_end ?_
        refine renew [(0, (Enc.enc (a_1 : List Int))), (1, (Enc.enc (b_2 : List Int))), (4, (.bool false)), (5, (.int .i64 (w64 (i_5 + 1))))] ⟨h0, h1, h4, rfl⟩ ?_
        rintro s ⟨h0, h1, h4, h5⟩
        refine .nlp ?_
        exact ih (w64 (i_5 + 1)) _ ⟨h0, h1, h4, h5⟩ h
    · refine .exit ?_
      refine .esq ?_
      refine .elp ?_
      refine .ebk ?_
      refine .nsq ?_
      refine .seq ?_
      refine run_reg ?_
      refine e_end ?_
      refine g_v0 (.bool true) rfl rfl ?_
      refine g_end ?_
      refine e_end ?_
      refine renew [(4, (.bool true))] rfl ?_
      rintro s h4
      refine .nsq ?_
      refine .ret ?_
      have hr := Option.some.inj h
      subst hr
      exact rrA (res_tmp h4) rfl
def w_eqIntS (F : Nat) (a_1 : (List Int)) (b_2 : (List Int)) : Option Bool :=
  bif ((a_1.length : Int) != (b_2.length : Int)) then
    some false
  else
    w_eqIntS_l1 F a_1 b_2 F 0
theorem t19 (H : H19 D σ F) (a_1 : (List Int)) (b_2 : (List Int)) (s : Nat → V) (hs : Facts [(0, (Enc.enc (a_1 : List Int))), (1, (Enc.enc (b_2 : List Int)))] s) (h : w_eqIntS F a_1 b_2 = some r) : Run D σ (R19 r) (.run A19 []) s := by
  unfold w_eqIntS at h
  obtain ⟨h0, h1⟩ := hs
  refine .seq ?_
  refine run_reg ?_
  refine e_end ?_
  refine g_v0 (.bool false) rfl rfl ?_
  refine g_end ?_
  refine e_end ?_
  refine renew [(0, (Enc.enc (a_1 : List Int))), (1, (Enc.enc (b_2 : List Int))), (4, (.bool false))] ⟨h0, h1, rfl⟩ ?_
  rintro s ⟨h0, h1, h4⟩
  refine .nsq ?_
  refine .seq ?_
  refine .seq ?_
  refine run_reg ?_
  refine e_end ?_
  refine g_v1 (t := 0) (u := (Enc.enc (a_1 : List Int))) (Enc.enc (a_1 : List Int)) h0 rfl rfl ?_
  refine g_v (.int .i64 (a_1.length : Int)) (ev_len (xs := a_1) rfl) ?_
  refine g_v1 (t := 1) (u := (Enc.enc (b_2 : List Int))) (Enc.enc (b_2 : List Int)) h1 rfl rfl ?_
  refine g_v (.int .i64 (b_2.length : Int)) (ev_len (xs := b_2) rfl) ?_
  refine g_v2 (t1 := 7) (t2 := 9) (u1 := (.int .i64 (a_1.length : Int))) (u2 := (.int .i64 (b_2.length : Int))) (.bool ((a_1.length : Int) != (b_2.length : Int))) rfl rfl rfl rfl ?_
  refine g_end ?_
  refine e_end ?_
  refine renew [(0, (Enc.enc (a_1 : List Int))), (1, (Enc.enc (b_2 : List Int))), (4, (.bool false)), (10, (.bool ((a_1.length : Int) != (b_2.length : Int))))] ⟨h0, h1, h4, rfl⟩ ?_
  rintro s ⟨h0, h1, h4, h10⟩
  refine .nsq ?_
  refine run_cond (t := ((a_1.length : Int) != (b_2.length : Int))) h10 h (fun h => ?_) (fun h => ?_)
  · refine .seq ?_
    refine run_reg ?_
    refine e_end ?_
    refine g_v0 (.bool false) rfl rfl ?_
    refine g_end ?_
    refine e_end ?_
    refine renew [(0, (Enc.enc (a_1 : List Int))), (1, (Enc.enc (b_2 : List Int))), (4, (.bool false))] ⟨h0, h1, rfl⟩ ?_
    rintro s ⟨h0, h1, h4⟩
    refine .nsq ?_
    refine .ret ?_
    have hr := Option.some.inj h
    subst hr
    exact rrA (res_tmp h4) rfl
  · refine .skip ?_
    refine .nsq ?_
    refine .seq ?_
    refine .seq ?_
    refine run_reg ?_
    refine e_end ?_
    refine g_v0 (.int .i64 0) rfl rfl ?_
    refine g_end ?_
    refine e_end ?_
    refine renew [(0, (Enc.enc (a_1 : List Int))), (1, (Enc.enc (b_2 : List Int))), (4, (.bool false)), (5, (.int .i64 0))] ⟨h0, h1, h4, rfl⟩ ?_
    rintro s ⟨h0, h1, h4, h5⟩
    refine .nsq ?_
    refine .block ?_
    refine .loop ?_
    exact t_f19_l1 H a_1 b_2 F 0 _ ⟨h0, h1, h4, h5⟩ h
end
def e19 (F : Nat) : Ent := ⟨19, da (fun (x : ((List Int) × (List Int) × Unit)) => w_eqIntS F x.1 x.2.1) (fun (r : Bool) => (Enc.enc (r : Bool))), 0, false, selF []⟩
theorem p19 {F : Nat} {x0 : (List Int)} {x1 : (List Int)} {r : Bool} (h : w_eqIntS F x0 x1 = some r) : (e19 F).den [Enc.enc x0, Enc.enc x1] = some (Enc.enc (r : Bool)) := da_put (f := fun (x : ((List Int) × (List Int) × Unit)) => w_eqIntS F x.1 x.2.1) (t := fun (r : Bool) => (Enc.enc (r : Bool))) (x0, x1, ()) h
theorem o19 {D : Den} {σ : Sig} {F : Nat} (hF : Fits2 Try.prog D σ) (H : H19 D σ F) : (e19 F).Ok Try.prog := by
  refine ok_of (f := 19) (show unk 19 = 19 from rfl) (fun args r h => ?_) ⟨Try.f19, Try.func19, rfl, rfl⟩
  obtain ⟨⟨x0, x1, _⟩, y, rfl, hy, rfl⟩ := da_open h
  exact contract_run hF (by kernel_rfl) Try.func19 rfl c19 (show 2 ≤ Try.f19.ntmps by decide) (t19 H x0 x1 _ ⟨rfl, rfl⟩ hy)
/- loop.example/g01109/laws.eqIntA2 -/
def A103_2 : AC := (AC.cond (O.t 7) AC.skip (AC.exit 0))
def A103_4 : AC := (AC.cond (O.t 16) (AC.seq (AC.reg [] [(I.mk (some 4) none false (X.v (A.mov (O.k (V.bool false)))))] []) AC.ret) AC.skip)
def A103_5 : AC := (AC.reg [] [(I.mk (some 8) none false (X.v (A.mov (O.t 5)))), (I.mk (some 9) none false (X.v (A.bin BinOp.add (O.t 8) (O.k (V.int IntKind.i64 (Int.ofNat 1)))))), (I.mk (some 5) none false (X.v (A.mov (O.t 9))))] [])
def A103_3 : AC := (AC.seq (AC.block 1 (AC.seq (AC.reg [] [(I.mk (some 10) none false (X.v (A.mov (O.t 5)))), (I.mk (some 11) none false (X.v (A.idxA (O.t 2) (O.t 10) 2 1))), (I.mk (some 12) none false (X.v (A.load Sh.s (O.t 11)))), (I.mk (some 13) none false (X.v (A.mov (O.t 5)))), (I.mk (some 14) none false (X.v (A.idxA (O.t 3) (O.t 13) 2 1))), (I.mk (some 15) none false (X.v (A.load Sh.s (O.t 14)))), (I.mk (some 16) none false (X.v (A.bin BinOp.neq (O.t 12) (O.t 15))))] []) A103_4)) A103_5)
def A103_1 : AC := (AC.seq (AC.seq (AC.reg [] [(I.mk (some 6) none false (X.v (A.mov (O.t 5)))), (I.mk (some 7) none false (X.v (A.bin BinOp.lss (O.t 6) (O.k (V.int IntKind.i64 (Int.ofNat 2))))))] []) A103_2) A103_3)
def A103_6 : AC := (AC.seq (AC.reg [] [(I.mk (some 4) none false (X.v (A.mov (O.k (V.bool true)))))] []) AC.ret)
def A103_8 : AC := (AC.block 0 (AC.loop A103_1))
def A103_7 : AC := (AC.seq (AC.seq (AC.reg [] [(I.mk (some 5) none false (X.v (A.mov (O.k (V.int IntKind.i64 (Int.ofNat 0))))))] []) A103_8) A103_6)
def A103 : AC := (AC.seq (AC.reg [.clr [2, 3]] [(I.mk (some 2) none false (X.box (O.t 0))), (I.mk (some 3) none false (X.box (O.t 1))), (I.mk (some 4) none false (X.v (A.mov (O.k (V.bool false)))))] []) A103_7)
def an103 : List An := [{ id := 0, pre := [.clr [2, 3]], ep := [], lin := [], sp := [] }]
theorem c103 : cC Try.prog Try.f103.ntmps an103 (Try.f103.body.getD .skip) = some A103 := by kernel_rfl
structure H103 (D : Den) (σ : Sig) (F : Nat) : Prop where
  mk ::
abbrev R103 (r : Bool) : (Nat → V) → Prop := RR Try.prog [.tmp 4] 0 false (Enc.enc (r : Bool))
section
variable {D : Den} {σ : Sig} {F : Nat} {r : Bool}
def w_eqIntA2_l1 (F : Nat) (a_1 : (Int × Int)) (b_2 : (Int × Int))  : Nat → Int → Option Bool
  | 0, _ => none
  | k + 1, i_3 =>
    bif decide (i_3 < 2) then
      (idx [a_1.1, a_1.2] i_3).bind fun e_6 =>
      (idx [b_2.1, b_2.2] i_3).bind fun e_7 =>
      bif (e_6 != e_7) then
        some false
      else
        (w_eqIntA2_l1 F a_1 b_2 k) (w64 (i_3 + 1))
    else
      some true
theorem t_f103_l1 (H : H103 D σ F) (a_1 : (Int × Int)) (b_2 : (Int × Int))  : ∀ (k : Nat) (i_3 : Int) (s : Nat → V), Facts [(2, (.ref (.bx 2) 0 [] (.agg [(.int .i64 a_1.1), (.int .i64 a_1.2)]))), (3, (.ref (.bx 3) 0 [] (.agg [(.int .i64 b_2.1), (.int .i64 b_2.2)]))), (4, (.bool false)), (5, (.int .i64 i_3))] s → w_eqIntA2_l1 F a_1 b_2 k i_3 = some r → Run D σ (R103 r) (.run A103_1 [.lp A103_1, .bk 0, .sq A103_6]) s := by
  intro k
  induction k with
  | zero => intro i_3 s _ h; exact nomatch (h : (none : Option _) = some r)
  | succ k ih =>
    intro i_3 s hs h
    rw [w_eqIntA2_l1] at h
    obtain ⟨h2, h3, h4, h5⟩ := hs
    refine .seq ?_
    refine .seq ?_
    refine run_reg ?_
    refine e_end ?_
    refine g_v1 (t := 5) (u := (.int .i64 i_3)) (.int .i64 i_3) h5 rfl rfl ?_
    refine g_v1 (t := 6) (u := (.int .i64 i_3)) (.bool (decide (i_3 < 2))) rfl rfl rfl ?_
    refine g_end ?_
    refine e_end ?_
    refine renew [(2, (.ref (.bx 2) 0 [] (.agg [(.int .i64 a_1.1), (.int .i64 a_1.2)]))), (3, (.ref (.bx 3) 0 [] (.agg [(.int .i64 b_2.1), (.int .i64 b_2.2)]))), (4, (.bool false)), (5, (.int .i64 i_3)), (7, (.bool (decide (i_3 < 2))))] ⟨h2, h3, h4, h5, rfl⟩ ?_
    rintro s ⟨h2, h3, h4, h5, h7⟩
    refine .nsq ?_
    refine run_cond (t := decide (i_3 < 2)) h7 h (fun h => ?_) (fun h => ?_)
    · refine .skip ?_
      refine .nsq ?_
      refine .seq ?_
      refine .block ?_
      refine .seq ?_
      refine run_reg ?_
      refine e_end ?_
      refine g_v1 (t := 5) (u := (.int .i64 i_3)) (.int .i64 i_3) h5 rfl rfl ?_
      obtain ⟨e_6, E_e_6, h⟩ := bind_some h
      refine g_v (.ref (.bx 2) 0 [i_3.toNat] (.int .i64 e_6)) (ev_idxA (xs := [a_1.1, a_1.2]) (a := e_6) (n := i_3) (q := []) h2 rfl E_e_6 rfl rfl rfl) ?_
      refine g_v1 (t := 11) (u := (.ref (.bx 2) 0 [i_3.toNat] (.int .i64 e_6))) (.int .i64 e_6) rfl rfl rfl ?_
      refine g_v1 (t := 5) (u := (.int .i64 i_3)) (.int .i64 i_3) h5 rfl rfl ?_
      obtain ⟨e_7, E_e_7, h⟩ := bind_some h
      refine g_v (.ref (.bx 3) 0 [i_3.toNat] (.int .i64 e_7)) (ev_idxA (xs := [b_2.1, b_2.2]) (a := e_7) (n := i_3) (q := []) h3 rfl E_e_7 rfl rfl rfl) ?_
      refine g_v1 (t := 14) (u := (.ref (.bx 3) 0 [i_3.toNat] (.int .i64 e_7))) (.int .i64 e_7) rfl rfl rfl ?_
      refine g_v2 (t1 := 12) (t2 := 15) (u1 := (.int .i64 e_6)) (u2 := (.int .i64 e_7)) (.bool (e_6 != e_7)) rfl rfl rfl rfl ?_
      refine g_end ?_
      refine e_end ?_
      refine renew [(2, (.ref (.bx 2) 0 [] (.agg [(.int .i64 a_1.1), (.int .i64 a_1.2)]))), (3, (.ref (.bx 3) 0 [] (.agg [(.int .i64 b_2.1), (.int .i64 b_2.2)]))), (4, (.bool false)), (5, (.int .i64 i_3)), (16, (.bool (e_6 != e_7)))] ⟨h2, h3, h4, h5, rfl⟩ ?_
      rintro s ⟨h2, h3, h4, h5, h16⟩
      refine .nsq ?_
      refine run_cond (t := (e_6 != e_7)) h16 h (fun h => ?_) (fun h => ?_)
      · refine .seq ?_
        refine run_reg ?_
        refine e_end ?_
        refine g_v0 (.bool false) rfl rfl ?_
        refine g_end ?_
        refine e_end ?_
        refine renew [(2, (.ref (.bx 2) 0 [] (.agg [(.int .i64 a_1.1), (.int .i64 a_1.2)]))), (3, (.ref (.bx 3) 0 [] (.agg [(.int .i64 b_2.1), (.int .i64 b_2.2)]))), (4, (.bool false)), (5, (.int .i64 i_3))] ⟨h2, h3, rfl, h5⟩ ?_
        rintro s ⟨h2, h3, h4, h5⟩
        refine .nsq ?_
        refine .ret ?_
        have hr := Option.some.inj h
        subst hr
        exact rrA (res_tmp h4) rfl
      · refine .skip ?_
        refine .nbk ?_
        refine .nsq ?_
        refine run_reg ?_
        refine e_end ?_
        refine g_v1 (t := 5) (u := (.int .i64 i_3)) (.int .i64 i_3) h5 rfl rfl ?_
        refine g_v1 (t := 8) (u := (.int .i64 i_3)) (.int .i64 (w64 (i_3 + 1))) rfl rfl rfl ?_
        refine g_v1 (t := 9) (u := (.int .i64 (w64 (i_3 + 1)))) (.int .i64 (w64 (i_3 + 1))) rfl rfl rfl ?_
        refine g_end ?_
        refine e_end ?_
        refine renew [(2, (.ref (.bx 2) 0 [] (.agg [(.int .i64 a_1.1), (.int .i64 a_1.2)]))), (3, (.ref (.bx 3) 0 [] (.agg [(.int .i64 b_2.1), (.int .i64 b_2.2)]))), (4, (.bool false)), (5, (.int .i64 (w64 (i_3 + 1))))] ⟨h2, h3, h4, rfl⟩ ?_
        rintro s ⟨h2, h3, h4, h5⟩
        refine .nlp ?_
        exact ih (w64 (i_3 + 1)) _ ⟨h2, h3, h4, h5⟩ h
    · refine .exit ?_
      refine .esq ?_
      refine .elp ?_
      refine .ebk ?_
      refine .nsq ?_
      refine .seq ?_
      refine run_reg ?_
      refine e_end ?_
      refine g_v0 (.bool true) rfl rfl ?_
      refine g_end ?_
      refine e_end ?_
      refine renew [(4, (.bool true))] rfl ?_
      rintro s h4
      refine .nsq ?_
      refine .ret ?_
      have hr := Option.some.inj h
      subst hr
      exact rrA (res_tmp h4) rfl
def w_eqIntA2 (F : Nat) (a_1 : (Int × Int)) (b_2 : (Int × Int)) : Option Bool :=
  w_eqIntA2_l1 F a_1 b_2 F 0
theorem t103 (H : H103 D σ F) (a_1 : (Int × Int)) (b_2 : (Int × Int)) (s : Nat → V) (hs : Facts [(0, (.agg [(.int .i64 a_1.1), (.int .i64 a_1.2)])), (1, (.agg [(.int .i64 b_2.1), (.int .i64 b_2.2)]))] s) (h : w_eqIntA2 F a_1 b_2 = some r) : Run D σ (R103 r) (.run A103 []) s := by
  unfold w_eqIntA2 at h
  obtain ⟨h0, h1⟩ := hs
  refine .seq ?_
  refine run_reg ?_
  refine e_clr ?_
  refine e_end ?_
  refine g_box (.agg [(.int .i64 a_1.1), (.int .i64 a_1.2)]) (rd_of (keep_clear (s := s) (pk := [2, 3]) h0 rfl (map_agg (maps_cons rfl (maps_cons rfl maps_nil)))) rfl) (gone_clear (s := s) (pk := [2, 3]) (t := 2) rfl) rfl ?_
  refine g_box (.agg [(.int .i64 b_2.1), (.int .i64 b_2.2)]) (rd_of (keep_clear (s := s) (pk := [2, 3]) h1 rfl (map_agg (maps_cons rfl (maps_cons rfl maps_nil)))) rfl) (gone_clear (s := s) (pk := [2, 3]) (t := 3) rfl) rfl ?_
  refine g_v0 (.bool false) rfl rfl ?_
  refine g_end ?_
  refine e_end ?_
  refine renew [(2, (.ref (.bx 2) 0 [] (.agg [(.int .i64 a_1.1), (.int .i64 a_1.2)]))), (3, (.ref (.bx 3) 0 [] (.agg [(.int .i64 b_2.1), (.int .i64 b_2.2)]))), (4, (.bool false))] ⟨rfl, rfl, rfl⟩ ?_
  rintro s ⟨h2, h3, h4⟩
  refine .nsq ?_
  refine .seq ?_
  refine .seq ?_
  refine run_reg ?_
  refine e_end ?_
  refine g_v0 (.int .i64 0) rfl rfl ?_
  refine g_end ?_
  refine e_end ?_
  refine renew [(2, (.ref (.bx 2) 0 [] (.agg [(.int .i64 a_1.1), (.int .i64 a_1.2)]))), (3, (.ref (.bx 3) 0 [] (.agg [(.int .i64 b_2.1), (.int .i64 b_2.2)]))), (4, (.bool false)), (5, (.int .i64 0))] ⟨h2, h3, h4, rfl⟩ ?_
  rintro s ⟨h2, h3, h4, h5⟩
  refine .nsq ?_
  refine .block ?_
  refine .loop ?_
  exact t_f103_l1 H a_1 b_2 F 0 _ ⟨h2, h3, h4, h5⟩ h
end
def e103 (F : Nat) : Ent := ⟨103, da (fun (x : ((Int × Int) × (Int × Int) × Unit)) => w_eqIntA2 F x.1 x.2.1) (fun (r : Bool) => (Enc.enc (r : Bool))), 0, false, selF []⟩
theorem p103 {F : Nat} {x0 : (Int × Int)} {x1 : (Int × Int)} {r : Bool} (h : w_eqIntA2 F x0 x1 = some r) : (e103 F).den [Enc.enc x0, Enc.enc x1] = some (Enc.enc (r : Bool)) := da_put (f := fun (x : ((Int × Int) × (Int × Int) × Unit)) => w_eqIntA2 F x.1 x.2.1) (t := fun (r : Bool) => (Enc.enc (r : Bool))) (x0, x1, ()) h
theorem o103 {D : Den} {σ : Sig} {F : Nat} (hF : Fits2 Try.prog D σ) (H : H103 D σ F) : (e103 F).Ok Try.prog := by
  refine ok_of (f := 103) (show unk 103 = 103 from rfl) (fun args r h => ?_) ⟨Try.f103, Try.func103, rfl, rfl⟩
  obtain ⟨⟨x0, x1, _⟩, y, rfl, hy, rfl⟩ := da_open h
  exact contract_run hF (by kernel_rfl) Try.func103 rfl c103 (show 2 ≤ Try.f103.ntmps by decide) (t103 H x0 x1 _ ⟨rfl, rfl⟩ hy)
/- loop.example/g01109/laws.eqIntA2S -/
def A54_2 : AC := (AC.cond (O.t 14) AC.skip (AC.exit 0))
def A54_4 : AC := (AC.cond (O.t 26) (AC.seq (AC.reg [] [(I.mk (some 4) none false (X.v (A.mov (O.k (V.bool false)))))] []) AC.ret) AC.skip)
def A54_5 : AC := (AC.reg [] [(I.mk (some 15) none false (X.v (A.mov (O.t 5)))), (I.mk (some 16) none false (X.v (A.bin BinOp.add (O.t 15) (O.k (V.int IntKind.i64 (Int.ofNat 1)))))), (I.mk (some 5) none false (X.v (A.mov (O.t 16))))] [])
def A54_3 : AC := (AC.seq (AC.block 1 (AC.seq (AC.reg [] [(I.mk (some 17) none false (X.v (A.mov (O.t 0)))), (I.mk (some 18) none false (X.v (A.mov (O.t 5)))), (I.mk (some 19) none false (X.v (A.idx (O.t 17) (O.t 18) 2))), (I.mk (some 20) none false (X.v (A.load (Sh.ag [Sh.s, Sh.s]) (O.t 19)))), (I.mk (some 21) none false (X.v (A.mov (O.t 1)))), (I.mk (some 22) none false (X.v (A.mov (O.t 5)))), (I.mk (some 23) none false (X.v (A.idx (O.t 21) (O.t 22) 2))), (I.mk (some 24) none false (X.v (A.load (Sh.ag [Sh.s, Sh.s]) (O.t 23)))), (I.mk (some 25) none false (X.call (O.k (V.fn 103 [] [])) [(O.t 20), (O.t 24)])), (I.mk (some 26) none false (X.v (A.un UnOp.not (O.t 25))))] []) A54_4)) A54_5)
def A54_1 : AC := (AC.seq (AC.seq (AC.reg [] [(I.mk (some 11) none false (X.v (A.mov (O.t 5)))), (I.mk (some 12) none false (X.v (A.mov (O.t 0)))), (I.mk (some 13) none false (X.v (A.len (O.t 12)))), (I.mk (some 14) none false (X.v (A.bin BinOp.lss (O.t 11) (O.t 13))))] []) A54_2) A54_3)
def A54_6 : AC := (AC.seq (AC.reg [] [(I.mk (some 4) none false (X.v (A.mov (O.k (V.bool true)))))] []) AC.ret)
def A54_8 : AC := (AC.cond (O.t 10) (AC.seq (AC.reg [] [(I.mk (some 4) none false (X.v (A.mov (O.k (V.bool false)))))] []) AC.ret) AC.skip)
def A54_10 : AC := (AC.block 0 (AC.loop A54_1))
def A54_9 : AC := (AC.seq (AC.seq (AC.reg [] [(I.mk (some 5) none false (X.v (A.mov (O.k (V.int IntKind.i64 (Int.ofNat 0))))))] []) A54_10) A54_6)
def A54_7 : AC := (AC.seq (AC.seq (AC.reg [] [(I.mk (some 6) none false (X.v (A.mov (O.t 0)))), (I.mk (some 7) none false (X.v (A.len (O.t 6)))), (I.mk (some 8) none false (X.v (A.mov (O.t 1)))), (I.mk (some 9) none false (X.v (A.len (O.t 8)))), (I.mk (some 10) none false (X.v (A.bin BinOp.neq (O.t 7) (O.t 9))))] []) A54_8) A54_9)
def A54 : AC := (AC.seq (AC.reg [] [(I.mk (some 4) none false (X.v (A.mov (O.k (V.bool false)))))] []) A54_7)
def an54 : List An := []
theorem c54 : cC Try.prog Try.f54.ntmps an54 (Try.f54.body.getD .skip) = some A54 := by kernel_rfl
structure H54 (D : Den) (σ : Sig) (F : Nat) : Prop where
  c103 : ∀ (x0 : (Int × Int)) (x1 : (Int × Int)) r, w_eqIntA2 F x0 x1 = some r → D 103 [Enc.enc x0, Enc.enc x1] = some (Enc.enc (r : Bool))
  g103 : σ 103 = some (0, false)
abbrev R54 (r : Bool) : (Nat → V) → Prop := RR Try.prog [.tmp 4] 0 false (Enc.enc (r : Bool))
section
variable {D : Den} {σ : Sig} {F : Nat} {r : Bool}
def w_eqIntA2S_l1 (F : Nat) (a_1 : (List (Int × Int))) (b_2 : (List (Int × Int)))  : Nat → Int → Option Bool
  | 0, _ => none
  | k + 1, i_6 =>
    bif decide (i_6 < (a_1.length : Int)) then
      (idx a_1 i_6).bind fun e_10 =>
      (idx b_2 i_6).bind fun e_11 =>
      (w_eqIntA2 F e_10 e_11).bind fun r_12 =>
      bif (!r_12) then
        some false
      else
        (w_eqIntA2S_l1 F a_1 b_2 k) (w64 (i_6 + 1))
    else
      some true
theorem t_f54_l1 (H : H54 D σ F) (a_1 : (List (Int × Int))) (b_2 : (List (Int × Int)))  : ∀ (k : Nat) (i_6 : Int) (s : Nat → V), Facts [(0, (Enc.enc (a_1 : List (Int × Int)))), (1, (Enc.enc (b_2 : List (Int × Int)))), (4, (.bool false)), (5, (.int .i64 i_6))] s → w_eqIntA2S_l1 F a_1 b_2 k i_6 = some r → Run D σ (R54 r) (.run A54_1 [.lp A54_1, .bk 0, .sq A54_6]) s := by
  intro k
  induction k with
  | zero => intro i_6 s _ h; exact nomatch (h : (none : Option _) = some r)
  | succ k ih =>
    intro i_6 s hs h
    rw [w_eqIntA2S_l1] at h
    obtain ⟨h0, h1, h4, h5⟩ := hs
    refine .seq ?_
    refine .seq ?_
    refine run_reg ?_
    refine e_end ?_
    refine g_v1 (t := 5) (u := (.int .i64 i_6)) (.int .i64 i_6) h5 rfl rfl ?_
    refine g_v1 (t := 0) (u := (Enc.enc (a_1 : List (Int × Int)))) (Enc.enc (a_1 : List (Int × Int))) h0 rfl rfl ?_
    refine g_v (.int .i64 (a_1.length : Int)) (ev_len (xs := a_1) rfl) ?_
    refine g_v2 (t1 := 11) (t2 := 13) (u1 := (.int .i64 i_6)) (u2 := (.int .i64 (a_1.length : Int))) (.bool (decide (i_6 < (a_1.length : Int)))) rfl rfl rfl rfl ?_
    refine g_end ?_
    refine e_end ?_
    refine renew [(0, (Enc.enc (a_1 : List (Int × Int)))), (1, (Enc.enc (b_2 : List (Int × Int)))), (4, (.bool false)), (5, (.int .i64 i_6)), (14, (.bool (decide (i_6 < (a_1.length : Int)))))] ⟨h0, h1, h4, h5, rfl⟩ ?_
    rintro s ⟨h0, h1, h4, h5, h14⟩
    refine .nsq ?_
    refine run_cond (t := decide (i_6 < (a_1.length : Int))) h14 h (fun h => ?_) (fun h => ?_)
    · refine .skip ?_
      refine .nsq ?_
      refine .seq ?_
      refine .block ?_
      refine .seq ?_
      refine run_reg ?_
      refine e_end ?_
      refine g_v1 (t := 0) (u := (Enc.enc (a_1 : List (Int × Int)))) (Enc.enc (a_1 : List (Int × Int))) h0 rfl rfl ?_
      refine g_v1 (t := 5) (u := (.int .i64 i_6)) (.int .i64 i_6) h5 rfl rfl ?_
      obtain ⟨e_10, E_e_10, h⟩ := bind_some h
      refine g_v (.ref .sh 0 [] (.agg [(.int .i64 e_10.1), (.int .i64 e_10.2)])) (ev_idx (t := .sh) (lo := 0) (xs := a_1) rfl rfl E_e_10 rfl rfl) ?_
      refine g_v1 (t := 19) (u := (.ref .sh 0 [] (.agg [(.int .i64 e_10.1), (.int .i64 e_10.2)]))) (.agg [(.int .i64 e_10.1), (.int .i64 e_10.2)]) rfl rfl rfl ?_
      refine g_v1 (t := 1) (u := (Enc.enc (b_2 : List (Int × Int)))) (Enc.enc (b_2 : List (Int × Int))) h1 rfl rfl ?_
      refine g_v1 (t := 5) (u := (.int .i64 i_6)) (.int .i64 i_6) h5 rfl rfl ?_
      obtain ⟨e_11, E_e_11, h⟩ := bind_some h
      refine g_v (.ref .sh 0 [] (.agg [(.int .i64 e_11.1), (.int .i64 e_11.2)])) (ev_idx (t := .sh) (lo := 0) (xs := b_2) rfl rfl E_e_11 rfl rfl) ?_
      refine g_v1 (t := 23) (u := (.ref .sh 0 [] (.agg [(.int .i64 e_11.1), (.int .i64 e_11.2)]))) (.agg [(.int .i64 e_11.1), (.int .i64 e_11.2)]) rfl rfl rfl ?_
      obtain ⟨r_12, E_r_12, h⟩ := bind_some h
      refine g_call (m := 0) (al := false) (r := (Enc.enc (r_12 : Bool))) [Enc.enc (e_10 : (Int × Int)), Enc.enc (e_11 : (Int × Int))] (ta_cons (v := (.agg [(.int .i64 e_10.1), (.int .i64 e_10.2)])) rfl rfl (Enc.erase_enc (e_10 : (Int × Int))) (ta_cons (v := (.agg [(.int .i64 e_11.1), (.int .i64 e_11.2)])) rfl rfl (Enc.erase_enc (e_11 : (Int × Int))) ta_nil)) (H.c103 _ _ _ E_r_12) H.g103 rfl rfl rfl rfl ?_
      refine g_v1 (t := 25) (u := (.bool r_12)) (.bool (!r_12)) rfl rfl rfl ?_
      refine g_end ?_
      refine e_end ?_
      refine renew [(0, (Enc.enc (a_1 : List (Int × Int)))), (1, (Enc.enc (b_2 : List (Int × Int)))), (4, (.bool false)), (5, (.int .i64 i_6)), (26, (.bool (!r_12)))] ⟨h0, h1, h4, h5, rfl⟩ ?_
      rintro s ⟨h0, h1, h4, h5, h26⟩
      refine .nsq ?_
      refine run_cond (t := (!r_12)) h26 h (fun h => ?_) (fun h => ?_)
      · refine .seq ?_
        refine run_reg ?_
        refine e_end ?_
        refine g_v0 (.bool false) rfl rfl ?_
        refine g_end ?_
        refine e_end ?_
        refine renew [(0, (Enc.enc (a_1 : List (Int × Int)))), (1, (Enc.enc (b_2 : List (Int × Int)))), (4, (.bool false)), (5, (.int .i64 i_6))] ⟨h0, h1, rfl, h5⟩ ?_
        rintro s ⟨h0, h1, h4, h5⟩
        refine .nsq ?_
        refine .ret ?_
        have hr := Option.some.inj h
        subst hr
        exact rrA (res_tmp h4) rfl
      · refine .skip ?_
        refine .nbk ?_
        refine .nsq ?_
        refine run_reg ?_
        refine e_end ?_
        refine g_v1 (t := 5) (u := (.int .i64 i_6)) (.int .i64 i_6) h5 rfl rfl ?_
        refine g_v1 (t := 15) (u := (.int .i64 i_6)) (.int .i64 (w64 (i_6 + 1))) rfl rfl rfl ?_
        refine g_v1 (t := 16) (u := (.int .i64 (w64 (i_6 + 1)))) (.int .i64 (w64 (i_6 + 1))) rfl rfl rfl ?_
        refine g_end ?_
        refine e_end ?_
        refine renew [(0, (Enc.enc (a_1 : List (Int × Int)))), (1, (Enc.enc (b_2 : List (Int × Int)))), (4, (.bool false)), (5, (.int .i64 (w64 (i_6 + 1))))] ⟨h0, h1, h4, rfl⟩ ?_
        rintro s ⟨h0, h1, h4, h5⟩
        refine .nlp ?_
        exact ih (w64 (i_6 + 1)) _ ⟨h0, h1, h4, h5⟩ h
    · refine .exit ?_
      refine .esq ?_
      refine .elp ?_
      refine .ebk ?_
      refine .nsq ?_
      refine .seq ?_
      refine run_reg ?_
      refine e_end ?_
      refine g_v0 (.bool true) rfl rfl ?_
      refine g_end ?_
      refine e_end ?_
      refine renew [(4, (.bool true))] rfl ?_
      rintro s h4
      refine .nsq ?_
      refine .ret ?_
      have hr := Option.some.inj h
      subst hr
      exact rrA (res_tmp h4) rfl
def w_eqIntA2S (F : Nat) (a_1 : (List (Int × Int))) (b_2 : (List (Int × Int))) : Option Bool :=
  bif ((a_1.length : Int) != (b_2.length : Int)) then
    some false
  else
    w_eqIntA2S_l1 F a_1 b_2 F 0
theorem t54 (H : H54 D σ F) (a_1 : (List (Int × Int))) (b_2 : (List (Int × Int))) (s : Nat → V) (hs : Facts [(0, (Enc.enc (a_1 : List (Int × Int)))), (1, (Enc.enc (b_2 : List (Int × Int))))] s) (h : w_eqIntA2S F a_1 b_2 = some r) : Run D σ (R54 r) (.run A54 []) s := by
  unfold w_eqIntA2S at h
  obtain ⟨h0, h1⟩ := hs
  refine .seq ?_
  refine run_reg ?_
  refine e_end ?_
  refine g_v0 (.bool false) rfl rfl ?_
  refine g_end ?_
  refine e_end ?_
  refine renew [(0, (Enc.enc (a_1 : List (Int × Int)))), (1, (Enc.enc (b_2 : List (Int × Int)))), (4, (.bool false))] ⟨h0, h1, rfl⟩ ?_
  rintro s ⟨h0, h1, h4⟩
  refine .nsq ?_
  refine .seq ?_
  refine .seq ?_
  refine run_reg ?_
  refine e_end ?_
  refine g_v1 (t := 0) (u := (Enc.enc (a_1 : List (Int × Int)))) (Enc.enc (a_1 : List (Int × Int))) h0 rfl rfl ?_
  refine g_v (.int .i64 (a_1.length : Int)) (ev_len (xs := a_1) rfl) ?_
  refine g_v1 (t := 1) (u := (Enc.enc (b_2 : List (Int × Int)))) (Enc.enc (b_2 : List (Int × Int))) h1 rfl rfl ?_
  refine g_v (.int .i64 (b_2.length : Int)) (ev_len (xs := b_2) rfl) ?_
  refine g_v2 (t1 := 7) (t2 := 9) (u1 := (.int .i64 (a_1.length : Int))) (u2 := (.int .i64 (b_2.length : Int))) (.bool ((a_1.length : Int) != (b_2.length : Int))) rfl rfl rfl rfl ?_
  refine g_end ?_
  refine e_end ?_
  refine renew [(0, (Enc.enc (a_1 : List (Int × Int)))), (1, (Enc.enc (b_2 : List (Int × Int)))), (4, (.bool false)), (10, (.bool ((a_1.length : Int) != (b_2.length : Int))))] ⟨h0, h1, h4, rfl⟩ ?_
  rintro s ⟨h0, h1, h4, h10⟩
  refine .nsq ?_
  refine run_cond (t := ((a_1.length : Int) != (b_2.length : Int))) h10 h (fun h => ?_) (fun h => ?_)
  · refine .seq ?_
    refine run_reg ?_
    refine e_end ?_
    refine g_v0 (.bool false) rfl rfl ?_
    refine g_end ?_
    refine e_end ?_
    refine renew [(0, (Enc.enc (a_1 : List (Int × Int)))), (1, (Enc.enc (b_2 : List (Int × Int)))), (4, (.bool false))] ⟨h0, h1, rfl⟩ ?_
    rintro s ⟨h0, h1, h4⟩
    refine .nsq ?_
    refine .ret ?_
    have hr := Option.some.inj h
    subst hr
    exact rrA (res_tmp h4) rfl
  · refine .skip ?_
    refine .nsq ?_
    refine .seq ?_
    refine .seq ?_
    refine run_reg ?_
    refine e_end ?_
    refine g_v0 (.int .i64 0) rfl rfl ?_
    refine g_end ?_
    refine e_end ?_
    refine renew [(0, (Enc.enc (a_1 : List (Int × Int)))), (1, (Enc.enc (b_2 : List (Int × Int)))), (4, (.bool false)), (5, (.int .i64 0))] ⟨h0, h1, h4, rfl⟩ ?_
    rintro s ⟨h0, h1, h4, h5⟩
    refine .nsq ?_
    refine .block ?_
    refine .loop ?_
    exact t_f54_l1 H a_1 b_2 F 0 _ ⟨h0, h1, h4, h5⟩ h
end
def e54 (F : Nat) : Ent := ⟨54, da (fun (x : ((List (Int × Int)) × (List (Int × Int)) × Unit)) => w_eqIntA2S F x.1 x.2.1) (fun (r : Bool) => (Enc.enc (r : Bool))), 0, false, selF []⟩
theorem p54 {F : Nat} {x0 : (List (Int × Int))} {x1 : (List (Int × Int))} {r : Bool} (h : w_eqIntA2S F x0 x1 = some r) : (e54 F).den [Enc.enc x0, Enc.enc x1] = some (Enc.enc (r : Bool)) := da_put (f := fun (x : ((List (Int × Int)) × (List (Int × Int)) × Unit)) => w_eqIntA2S F x.1 x.2.1) (t := fun (r : Bool) => (Enc.enc (r : Bool))) (x0, x1, ()) h
theorem o54 {D : Den} {σ : Sig} {F : Nat} (hF : Fits2 Try.prog D σ) (H : H54 D σ F) : (e54 F).Ok Try.prog := by
  refine ok_of (f := 54) (show unk 54 = 54 from rfl) (fun args r h => ?_) ⟨Try.f54, Try.func54, rfl, rfl⟩
  obtain ⟨⟨x0, x1, _⟩, y, rfl, hy, rfl⟩ := da_open h
  exact contract_run hF (by kernel_rfl) Try.func54 rfl c54 (show 2 ≤ Try.f54.ntmps by decide) (t54 H x0 x1 _ ⟨rfl, rfl⟩ hy)
/- loop.example/g01109/laws.eqGraph -/
def A20_2 : AC := (AC.cond (O.t 9) (AC.seq (AC.reg [] [(I.mk (some 4) none false (X.v (A.mov (O.k (V.bool false)))))] []) AC.ret) AC.skip)
def A20_4 : AC := (AC.cond (O.t 15) (AC.seq (AC.reg [] [(I.mk (some 4) none false (X.v (A.mov (O.k (V.bool false)))))] []) AC.ret) AC.skip)
def A20_5 : AC := (AC.seq (AC.reg [] [(I.mk (some 4) none false (X.v (A.mov (O.k (V.bool true)))))] []) AC.ret)
def A20_3 : AC := (AC.seq (AC.seq (AC.reg [] [(I.mk (some 10) none false (X.v (A.fld (O.t 2) 1 1))), (I.mk (some 11) none false (X.v (A.load Sh.p (O.t 10)))), (I.mk (some 12) none false (X.v (A.fld (O.t 3) 1 1))), (I.mk (some 13) none false (X.v (A.load Sh.p (O.t 12)))), (I.mk (some 14) none false (X.call (O.k (V.fn 54 [] [])) [(O.t 11), (O.t 13)])), (I.mk (some 15) none false (X.v (A.un UnOp.not (O.t 14))))] []) A20_4) A20_5)
def A20_1 : AC := (AC.seq (AC.seq (AC.reg [] [(I.mk (some 5) none false (X.v (A.fld (O.t 2) 0 0))), (I.mk (some 6) none false (X.v (A.load Sh.s (O.t 5)))), (I.mk (some 7) none false (X.v (A.fld (O.t 3) 0 0))), (I.mk (some 8) none false (X.v (A.load Sh.s (O.t 7)))), (I.mk (some 9) none false (X.v (A.bin BinOp.neq (O.t 6) (O.t 8))))] []) A20_2) A20_3)
def A20 : AC := (AC.seq (AC.reg [.clr [2, 3]] [(I.mk (some 2) none false (X.box (O.t 0))), (I.mk (some 3) none false (X.box (O.t 1))), (I.mk (some 4) none false (X.v (A.mov (O.k (V.bool false)))))] []) A20_1)
def an20 : List An := [{ id := 0, pre := [.clr [2, 3]], ep := [], lin := [], sp := [] }]
theorem c20 : cC Try.prog Try.f20.ntmps an20 (Try.f20.body.getD .skip) = some A20 := by kernel_rfl
structure H20 (D : Den) (σ : Sig) (F : Nat) : Prop where
  c54 : ∀ (x0 : (List (Int × Int))) (x1 : (List (Int × Int))) r, w_eqIntA2S F x0 x1 = some r → D 54 [Enc.enc x0, Enc.enc x1] = some (Enc.enc (r : Bool))
  g54 : σ 54 = some (0, false)
abbrev R20 (r : Bool) : (Nat → V) → Prop := RR Try.prog [.tmp 4] 0 false (Enc.enc (r : Bool))
section
variable {D : Den} {σ : Sig} {F : Nat} {r : Bool}
def w_eqGraph (F : Nat) (a_1 : (Int × (List (Int × Int)))) (b_2 : (Int × (List (Int × Int)))) : Option Bool :=
  bif (a_1.1 != b_2.1) then
    some false
  else
    (w_eqIntA2S F a_1.2 b_2.2).bind fun r_3 =>
    bif (!r_3) then
      some false
    else
      some true
theorem t20 (H : H20 D σ F) (a_1 : (Int × (List (Int × Int)))) (b_2 : (Int × (List (Int × Int)))) (s : Nat → V) (hs : Facts [(0, (.agg [(.int .i64 a_1.1), (Enc.enc (a_1.2 : List (Int × Int)))])), (1, (.agg [(.int .i64 b_2.1), (Enc.enc (b_2.2 : List (Int × Int)))]))] s) (h : w_eqGraph F a_1 b_2 = some r) : Run D σ (R20 r) (.run A20 []) s := by
  unfold w_eqGraph at h
  obtain ⟨h0, h1⟩ := hs
  refine .seq ?_
  refine run_reg ?_
  refine e_clr ?_
  refine e_end ?_
  refine g_box (.agg [(.int .i64 a_1.1), (Enc.enc (a_1.2 : List (Int × Int)))]) (rd_of (keep_clear (s := s) (pk := [2, 3]) h0 rfl (map_agg (maps_cons rfl (maps_cons (Enc.map_enc _ (a_1.2 : List (Int × Int))) maps_nil)))) rfl) (gone_clear (s := s) (pk := [2, 3]) (t := 2) rfl) rfl ?_
  refine g_box (.agg [(.int .i64 b_2.1), (Enc.enc (b_2.2 : List (Int × Int)))]) (rd_of (keep_clear (s := s) (pk := [2, 3]) h1 rfl (map_agg (maps_cons rfl (maps_cons (Enc.map_enc _ (b_2.2 : List (Int × Int))) maps_nil)))) rfl) (gone_clear (s := s) (pk := [2, 3]) (t := 3) rfl) rfl ?_
  refine g_v0 (.bool false) rfl rfl ?_
  refine g_end ?_
  refine e_end ?_
  refine renew [(2, (.ref (.bx 2) 0 [] (.agg [(.int .i64 a_1.1), (Enc.enc (a_1.2 : List (Int × Int)))]))), (3, (.ref (.bx 3) 0 [] (.agg [(.int .i64 b_2.1), (Enc.enc (b_2.2 : List (Int × Int)))]))), (4, (.bool false))] ⟨rfl, rfl, rfl⟩ ?_
  rintro s ⟨h2, h3, h4⟩
  refine .nsq ?_
  refine .seq ?_
  refine .seq ?_
  refine run_reg ?_
  refine e_end ?_
  refine g_v1 (t := 2) (u := (.ref (.bx 2) 0 [] (.agg [(.int .i64 a_1.1), (Enc.enc (a_1.2 : List (Int × Int)))]))) (.ref (.bx 2) 0 [0] (.int .i64 a_1.1)) h2 rfl rfl ?_
  refine g_v1 (t := 5) (u := (.ref (.bx 2) 0 [0] (.int .i64 a_1.1))) (.int .i64 a_1.1) rfl rfl rfl ?_
  refine g_v1 (t := 3) (u := (.ref (.bx 3) 0 [] (.agg [(.int .i64 b_2.1), (Enc.enc (b_2.2 : List (Int × Int)))]))) (.ref (.bx 3) 0 [0] (.int .i64 b_2.1)) h3 rfl rfl ?_
  refine g_v1 (t := 7) (u := (.ref (.bx 3) 0 [0] (.int .i64 b_2.1))) (.int .i64 b_2.1) rfl rfl rfl ?_
  refine g_v2 (t1 := 6) (t2 := 8) (u1 := (.int .i64 a_1.1)) (u2 := (.int .i64 b_2.1)) (.bool (a_1.1 != b_2.1)) rfl rfl rfl rfl ?_
  refine g_end ?_
  refine e_end ?_
  refine renew [(2, (.ref (.bx 2) 0 [] (.agg [(.int .i64 a_1.1), (Enc.enc (a_1.2 : List (Int × Int)))]))), (3, (.ref (.bx 3) 0 [] (.agg [(.int .i64 b_2.1), (Enc.enc (b_2.2 : List (Int × Int)))]))), (4, (.bool false)), (9, (.bool (a_1.1 != b_2.1)))] ⟨h2, h3, h4, rfl⟩ ?_
  rintro s ⟨h2, h3, h4, h9⟩
  refine .nsq ?_
  refine run_cond (t := (a_1.1 != b_2.1)) h9 h (fun h => ?_) (fun h => ?_)
  · refine .seq ?_
    refine run_reg ?_
    refine e_end ?_
    refine g_v0 (.bool false) rfl rfl ?_
    refine g_end ?_
    refine e_end ?_
    refine renew [(2, (.ref (.bx 2) 0 [] (.agg [(.int .i64 a_1.1), (Enc.enc (a_1.2 : List (Int × Int)))]))), (3, (.ref (.bx 3) 0 [] (.agg [(.int .i64 b_2.1), (Enc.enc (b_2.2 : List (Int × Int)))]))), (4, (.bool false))] ⟨h2, h3, rfl⟩ ?_
    rintro s ⟨h2, h3, h4⟩
    refine .nsq ?_
    refine .ret ?_
    have hr := Option.some.inj h
    subst hr
    exact rrA (res_tmp h4) rfl
  · refine .skip ?_
    refine .nsq ?_
    refine .seq ?_
    refine .seq ?_
    refine run_reg ?_
    refine e_end ?_
    refine g_v1 (t := 2) (u := (.ref (.bx 2) 0 [] (.agg [(.int .i64 a_1.1), (Enc.enc (a_1.2 : List (Int × Int)))]))) (.ref (.bx 2) 0 [1] (Enc.enc (a_1.2 : List (Int × Int)))) h2 rfl rfl ?_
    refine g_v1 (t := 10) (u := (.ref (.bx 2) 0 [1] (Enc.enc (a_1.2 : List (Int × Int))))) (Enc.enc (a_1.2 : List (Int × Int))) rfl rfl rfl ?_
    refine g_v1 (t := 3) (u := (.ref (.bx 3) 0 [] (.agg [(.int .i64 b_2.1), (Enc.enc (b_2.2 : List (Int × Int)))]))) (.ref (.bx 3) 0 [1] (Enc.enc (b_2.2 : List (Int × Int)))) h3 rfl rfl ?_
    refine g_v1 (t := 12) (u := (.ref (.bx 3) 0 [1] (Enc.enc (b_2.2 : List (Int × Int))))) (Enc.enc (b_2.2 : List (Int × Int))) rfl rfl rfl ?_
    obtain ⟨r_3, E_r_3, h⟩ := bind_some h
    refine g_call (m := 0) (al := false) (r := (Enc.enc (r_3 : Bool))) [Enc.enc (a_1.2 : (List (Int × Int))), Enc.enc (b_2.2 : (List (Int × Int)))] (ta_cons (v := (Enc.enc (a_1.2 : List (Int × Int)))) rfl rfl (Enc.erase_enc (a_1.2 : (List (Int × Int)))) (ta_cons (v := (Enc.enc (b_2.2 : List (Int × Int)))) rfl rfl (Enc.erase_enc (b_2.2 : (List (Int × Int)))) ta_nil)) (H.c54 _ _ _ E_r_3) H.g54 rfl rfl rfl rfl ?_
    refine g_v1 (t := 14) (u := (.bool r_3)) (.bool (!r_3)) rfl rfl rfl ?_
    refine g_end ?_
    refine e_end ?_
    refine renew [(4, (.bool false)), (15, (.bool (!r_3)))] ⟨h4, rfl⟩ ?_
    rintro s ⟨h4, h15⟩
    refine .nsq ?_
    refine run_cond (t := (!r_3)) h15 h (fun h => ?_) (fun h => ?_)
    · refine .seq ?_
      refine run_reg ?_
      refine e_end ?_
      refine g_v0 (.bool false) rfl rfl ?_
      refine g_end ?_
      refine e_end ?_
      refine renew [(4, (.bool false))] rfl ?_
      rintro s h4
      refine .nsq ?_
      refine .ret ?_
      have hr := Option.some.inj h
      subst hr
      exact rrA (res_tmp h4) rfl
    · refine .skip ?_
      refine .nsq ?_
      refine .seq ?_
      refine run_reg ?_
      refine e_end ?_
      refine g_v0 (.bool true) rfl rfl ?_
      refine g_end ?_
      refine e_end ?_
      refine renew [(4, (.bool true))] rfl ?_
      rintro s h4
      refine .nsq ?_
      refine .ret ?_
      have hr := Option.some.inj h
      subst hr
      exact rrA (res_tmp h4) rfl
end
def e20 (F : Nat) : Ent := ⟨20, da (fun (x : ((Int × (List (Int × Int))) × (Int × (List (Int × Int))) × Unit)) => w_eqGraph F x.1 x.2.1) (fun (r : Bool) => (Enc.enc (r : Bool))), 0, false, selF []⟩
theorem p20 {F : Nat} {x0 : (Int × (List (Int × Int)))} {x1 : (Int × (List (Int × Int)))} {r : Bool} (h : w_eqGraph F x0 x1 = some r) : (e20 F).den [Enc.enc x0, Enc.enc x1] = some (Enc.enc (r : Bool)) := da_put (f := fun (x : ((Int × (List (Int × Int))) × (Int × (List (Int × Int))) × Unit)) => w_eqGraph F x.1 x.2.1) (t := fun (r : Bool) => (Enc.enc (r : Bool))) (x0, x1, ()) h
theorem o20 {D : Den} {σ : Sig} {F : Nat} (hF : Fits2 Try.prog D σ) (H : H20 D σ F) : (e20 F).Ok Try.prog := by
  refine ok_of (f := 20) (show unk 20 = 20 from rfl) (fun args r h => ?_) ⟨Try.f20, Try.func20, rfl, rfl⟩
  obtain ⟨⟨x0, x1, _⟩, y, rfl, hy, rfl⟩ := da_open h
  exact contract_run hF (by kernel_rfl) Try.func20 rfl c20 (show 2 ≤ Try.f20.ntmps by decide) (t20 H x0 x1 _ ⟨rfl, rfl⟩ hy)
/- loop.example/g01109/laws.toIntA2S -/
def A50o_2 : AC := (AC.cond (O.t 11) AC.skip (AC.exit 0))
def A50o_4 : AC := (AC.reg [] [(I.mk (some 12) none false (X.v (A.mov (O.t 4)))), (I.mk (some 13) none false (X.v (A.bin BinOp.add (O.t 12) (O.k (V.int IntKind.i64 (Int.ofNat 1)))))), (I.mk (some 4) none false (X.v (A.mov (O.t 13))))] [])
def A50o_3 : AC := (AC.seq (AC.block 1 (AC.reg [] [(I.mk (some 14) none false (X.v (A.mov (O.t 3)))), (I.mk (some 15) none false (X.v (A.mov (O.t 4)))), (I.mk (some 16) none false (X.v (A.mov (O.t 0)))), (I.mk (some 17) none false (X.v (A.mov (O.t 4)))), (I.mk (some 18) none false (X.v (A.idx (O.t 16) (O.t 17) 2))), (I.mk (some 19) none false (X.v (A.load (Sh.ag [Sh.s, Sh.s]) (O.t 18)))), (I.mk (some 20) none false (X.call (O.k (V.fn 99 [] [])) [(O.t 19)])), (I.mk (some 21) none false (X.v (A.idx (O.t 14) (O.t 15) 2))), (I.mk none none false (X.store (Sh.ag [Sh.s, Sh.s]) (O.t 21) (O.t 20)))] [])) A50o_4)
def A50o_1 : AC := (AC.seq (AC.seq (AC.reg [] [(I.mk (some 8) none false (X.v (A.mov (O.t 4)))), (I.mk (some 9) none false (X.v (A.mov (O.t 0)))), (I.mk (some 10) none false (X.v (A.len (O.t 9)))), (I.mk (some 11) none false (X.v (A.bin BinOp.lss (O.t 8) (O.t 10))))] []) A50o_2) A50o_3)
def A50o_5 : AC := (AC.seq (AC.reg [] [(I.mk (some 22) none false (X.v (A.mov (O.t 3)))), (I.mk (some 2) none false (X.v (A.mov (O.t 22))))] [.home 3 2]) AC.ret)
def A50o_8 : AC := (AC.block 0 (AC.loop A50o_1))
def A50o_7 : AC := (AC.seq (AC.seq (AC.reg [] [(I.mk (some 4) none false (X.v (A.mov (O.k (V.int IntKind.i64 (Int.ofNat 0))))))] []) A50o_8) A50o_5)
def A50o_6 : AC := (AC.seq (AC.reg [.clr [7]] [(I.mk (some 5) none false (X.v (A.mov (O.t 0)))), (I.mk (some 6) none false (X.v (A.len (O.t 5)))), (I.mk (some 7) none false (X.mk (O.t 6) (V.agg [(V.int IntKind.i64 (Int.ofNat 0)), (V.int IntKind.i64 (Int.ofNat 0))]))), (I.mk (some 3) none false (X.v (A.mov (O.t 7))))] [.home 7 3]) A50o_7)
def A50o : AC := (AC.seq (AC.reg [] [(I.mk (some 2) none false (X.v (A.mov (O.k (V.sl Tok.nl (Sh.ag [Sh.s, Sh.s]) 0 [])))))] []) A50o_6)
def an50o : List An := [{ id := 1, pre := [.clr [7]], ep := [.home 7 3], lin := [], sp := [] }, { id := 6, pre := [], ep := [.home 3 2], lin := [], sp := [] }]
theorem c50o : cC Try.prog Try.f50.ntmps an50o (Try.f50.body.getD .skip) = some A50o := by kernel_rfl
structure H50o (D : Den) (σ : Sig) (F : Nat) : Prop where
  c99 : ∀ (x0 : (Int × Int)) r, w_toIntA2 F x0 = some r → D 99 [Enc.enc x0] = some (Enc.enc (r : (Int × Int)))
  g99 : σ 99 = some (0, false)
abbrev R50o (r : (NL (Int × Int))) : (Nat → V) → Prop := RR Try.prog [.tmp 2] 1 false (encO .sh (r : NL (Int × Int)))
section
variable {D : Den} {σ : Sig} {F : Nat} {r : (NL (Int × Int))}
def w_toIntA2S_o_l1 (F : Nat) (a_1 : (List (Int × Int)))  : Nat → (List (Int × Int)) → Int → Option (NL (Int × Int))
  | 0, _, _ => none
  | k + 1, out_6, i_7 =>
    bif decide (i_7 < (a_1.length : Int)) then
      (idx a_1 i_7).bind fun e_11 =>
      (w_toIntA2 F e_11).bind fun r_12 =>
      (idx out_6 i_7).bind fun e_13 =>
      (w_toIntA2S_o_l1 F a_1 k) (out_6.set i_7.toNat r_12) (w64 (i_7 + 1))
    else
      some (.of out_6)
theorem t_f50o_l1 (H : H50o D σ F) (a_1 : (List (Int × Int)))  : ∀ (k : Nat) (out_6 : (List (Int × Int))) (i_7 : Int) (s : Nat → V), Facts [(0, (Enc.enc (a_1 : List (Int × Int)))), (2, (.sl .nl (Enc.shp (Int × Int)) 0 [])), (3, (encO (.at 3 []) (.of (out_6 : List (Int × Int))))), (4, (.int .i64 i_7))] s → w_toIntA2S_o_l1 F a_1 k out_6 i_7 = some r → Run D σ (R50o r) (.run A50o_1 [.lp A50o_1, .bk 0, .sq A50o_5]) s := by
  intro k
  induction k with
  | zero => intro out_6 i_7 s _ h; exact nomatch (h : (none : Option _) = some r)
  | succ k ih =>
    intro out_6 i_7 s hs h
    rw [w_toIntA2S_o_l1] at h
    obtain ⟨h0, h2, h3, h4⟩ := hs
    refine .seq ?_
    refine .seq ?_
    refine run_reg ?_
    refine e_end ?_
    refine g_v1 (t := 4) (u := (.int .i64 i_7)) (.int .i64 i_7) h4 rfl rfl ?_
    refine g_v1 (t := 0) (u := (Enc.enc (a_1 : List (Int × Int)))) (Enc.enc (a_1 : List (Int × Int))) h0 rfl rfl ?_
    refine g_v (.int .i64 (a_1.length : Int)) (ev_len (xs := a_1) rfl) ?_
    refine g_v2 (t1 := 8) (t2 := 10) (u1 := (.int .i64 i_7)) (u2 := (.int .i64 (a_1.length : Int))) (.bool (decide (i_7 < (a_1.length : Int)))) rfl rfl rfl rfl ?_
    refine g_end ?_
    refine e_end ?_
    refine renew [(0, (Enc.enc (a_1 : List (Int × Int)))), (2, (.sl .nl (Enc.shp (Int × Int)) 0 [])), (3, (encO (.at 3 []) (.of (out_6 : List (Int × Int))))), (4, (.int .i64 i_7)), (11, (.bool (decide (i_7 < (a_1.length : Int)))))] ⟨h0, h2, h3, h4, rfl⟩ ?_
    rintro s ⟨h0, h2, h3, h4, h11⟩
    refine .nsq ?_
    refine run_cond (t := decide (i_7 < (a_1.length : Int))) h11 h (fun h => ?_) (fun h => ?_)
    · refine .skip ?_
      refine .nsq ?_
      refine .seq ?_
      refine .block ?_
      refine run_reg ?_
      refine e_end ?_
      refine g_v1 (t := 3) (u := (encO (.at 3 []) (.of (out_6 : List (Int × Int))))) (encO (.at 3 []) (.of (out_6 : List (Int × Int)))) h3 rfl rfl ?_
      refine g_v1 (t := 4) (u := (.int .i64 i_7)) (.int .i64 i_7) h4 rfl rfl ?_
      refine g_v1 (t := 0) (u := (Enc.enc (a_1 : List (Int × Int)))) (Enc.enc (a_1 : List (Int × Int))) h0 rfl rfl ?_
      refine g_v1 (t := 4) (u := (.int .i64 i_7)) (.int .i64 i_7) h4 rfl rfl ?_
      obtain ⟨e_11, E_e_11, h⟩ := bind_some h
      refine g_v (.ref .sh 0 [] (.agg [(.int .i64 e_11.1), (.int .i64 e_11.2)])) (ev_idx (t := .sh) (lo := 0) (xs := a_1) rfl rfl E_e_11 rfl rfl) ?_
      refine g_v1 (t := 18) (u := (.ref .sh 0 [] (.agg [(.int .i64 e_11.1), (.int .i64 e_11.2)]))) (.agg [(.int .i64 e_11.1), (.int .i64 e_11.2)]) rfl rfl rfl ?_
      obtain ⟨r_12, E_r_12, h⟩ := bind_some h
      refine g_call (m := 0) (al := false) (r := (Enc.enc (r_12 : (Int × Int)))) [Enc.enc (e_11 : (Int × Int))] (ta_cons (v := (.agg [(.int .i64 e_11.1), (.int .i64 e_11.2)])) rfl rfl (Enc.erase_enc (e_11 : (Int × Int))) ta_nil) (H.c99 _ _ E_r_12) H.g99 rfl rfl rfl rfl ?_
      obtain ⟨e_13, E_e_13, h⟩ := bind_some h
      refine g_v (.ref (.at 3 []) i_7.toNat [] (.agg [(.int .i64 e_13.1), (.int .i64 e_13.2)])) (ev_idxO (o := (.of out_6)) rfl rfl E_e_13 rfl) ?_
      refine g_store (.agg [(.int .i64 r_12.1), (.int .i64 r_12.2)]) (rd_of rfl rfl) (rd_of rfl rfl) (by refine ⟨by decide, by decide, rfl, rfl, rfl, ?_⟩; first | rfl | simp [V.toks, V.tokss, Enc.toks_enc]) ?_
      refine g_end ?_
      refine e_end ?_
      refine renew [(0, (Enc.enc (a_1 : List (Int × Int)))), (2, (.sl .nl (Enc.shp (Int × Int)) 0 [])), (3, (encO (.at 3 []) (.of (out_6.set i_7.toNat r_12 : List (Int × Int))))), (4, (.int .i64 i_7))] ⟨(keep_mut h0 (Enc.mut_enc _ _ _ _ (a_1 : List (Int × Int)))), (keep_mut h2 rfl), (keep_mut h3 mut_own), (keep_mut h4 rfl)⟩ ?_
      rintro s ⟨h0, h2, h3, h4⟩
      refine .nbk ?_
      refine .nsq ?_
      refine run_reg ?_
      refine e_end ?_
      refine g_v1 (t := 4) (u := (.int .i64 i_7)) (.int .i64 i_7) h4 rfl rfl ?_
      refine g_v1 (t := 12) (u := (.int .i64 i_7)) (.int .i64 (w64 (i_7 + 1))) rfl rfl rfl ?_
      refine g_v1 (t := 13) (u := (.int .i64 (w64 (i_7 + 1)))) (.int .i64 (w64 (i_7 + 1))) rfl rfl rfl ?_
      refine g_end ?_
      refine e_end ?_
      refine renew [(0, (Enc.enc (a_1 : List (Int × Int)))), (2, (.sl .nl (Enc.shp (Int × Int)) 0 [])), (3, (encO (.at 3 []) (.of (out_6.set i_7.toNat r_12 : List (Int × Int))))), (4, (.int .i64 (w64 (i_7 + 1))))] ⟨h0, h2, h3, rfl⟩ ?_
      rintro s ⟨h0, h2, h3, h4⟩
      refine .nlp ?_
      exact ih (out_6.set i_7.toNat r_12) (w64 (i_7 + 1)) _ ⟨h0, h2, h3, h4⟩ h
    · refine .exit ?_
      refine .esq ?_
      refine .elp ?_
      refine .ebk ?_
      refine .nsq ?_
      refine .seq ?_
      refine run_reg ?_
      refine e_end ?_
      refine g_v1 (t := 3) (u := (encO (.at 3 []) (.of (out_6 : List (Int × Int))))) (encO (.at 3 []) (.of (out_6 : List (Int × Int)))) h3 rfl rfl ?_
      refine g_v1 (t := 22) (u := (encO (.at 3 []) (.of (out_6 : List (Int × Int))))) (encO (.at 3 []) (.of (out_6 : List (Int × Int)))) rfl rfl rfl ?_
      refine g_end ?_
      refine e_home (r := 3) (x := 2) (v := (encO (.at 3 []) (.of (out_6 : List (Int × Int))))) (by exact rfl) rfl (fun s_3 hg_3 => ?_)
      refine e_end ?_
      refine renew [(2, (encO (.at 2 []) (.of (out_6 : List (Int × Int)))))] (hg_3 2 (encO (.at 3 []) (.of (out_6 : List (Int × Int)))) (encO (.at 2 []) (.of (out_6 : List (Int × Int)))) rfl (map_encO (r := 3) (p := []) rfl rfl)) ?_
      rintro s h2
      refine .nsq ?_
      refine .ret ?_
      have hr := Option.some.inj h
      subst hr
      exact rrA (res_tmp h2) (fin_retO (finO_own (o := ((.of out_6) : NL (Int × Int)))) rfl (mine_own rfl))
def w_toIntA2S_o (F : Nat) (a_1 : (List (Int × Int))) : Option (NL (Int × Int)) :=
  (mkN (a_1.length : Int) (0, 0)).bind fun mk_2 =>
  w_toIntA2S_o_l1 F a_1 F mk_2 0
theorem t50o (H : H50o D σ F) (a_1 : (List (Int × Int))) (s : Nat → V) (hs : Facts [(0, (Enc.enc (a_1 : List (Int × Int))))] s) (h : w_toIntA2S_o F a_1 = some r) : Run D σ (R50o r) (.run A50o []) s := by
  unfold w_toIntA2S_o at h
  have h0 := hs
  refine .seq ?_
  refine run_reg ?_
  refine e_end ?_
  refine g_v0 (.sl .nl (Enc.shp (Int × Int)) 0 []) rfl rfl ?_
  refine g_end ?_
  refine e_end ?_
  refine renew [(0, (Enc.enc (a_1 : List (Int × Int)))), (2, (.sl .nl (Enc.shp (Int × Int)) 0 []))] ⟨h0, rfl⟩ ?_
  rintro s ⟨h0, h2⟩
  refine .nsq ?_
  refine .seq ?_
  refine run_reg ?_
  refine e_clr ?_
  refine e_end ?_
  refine g_v1 (t := 0) (u := (Enc.enc (a_1 : List (Int × Int)))) (Enc.enc (a_1 : List (Int × Int))) (keep_clear (s := s) (pk := [7]) h0 rfl (Enc.map_enc _ (a_1 : List (Int × Int)))) rfl rfl ?_
  refine g_v (.int .i64 (a_1.length : Int)) (ev_len (xs := a_1) rfl) ?_
  obtain ⟨mk_2, E_mk_2, h⟩ := bind_some h
  refine g_mk ((0, 0) : (Int × Int)) rfl rfl (gone_clear (s := s) (pk := [7]) (t := 7) rfl) E_mk_2 ?_
  refine g_v1 (t := 7) (u := (encO (.at 7 []) (.of (mk_2 : List (Int × Int))))) (encO (.at 7 []) (.of (mk_2 : List (Int × Int)))) rfl rfl rfl ?_
  refine g_end ?_
  refine e_home (r := 7) (x := 3) (v := (encO (.at 7 []) (.of (mk_2 : List (Int × Int))))) (by exact rfl) rfl (fun s_2 hg_2 => ?_)
  refine e_end ?_
  refine renew [(0, (Enc.enc (a_1 : List (Int × Int)))), (2, (.sl .nl (Enc.shp (Int × Int)) 0 [])), (3, (encO (.at 3 []) (.of (mk_2 : List (Int × Int)))))] ⟨(hg_2 0 (Enc.enc (a_1 : List (Int × Int))) (Enc.enc (a_1 : List (Int × Int))) (keep_clear (s := s) (pk := [7]) h0 rfl (Enc.map_enc _ (a_1 : List (Int × Int)))) (Enc.map_enc _ (a_1 : List (Int × Int)))), (hg_2 2 (.sl .nl (Enc.shp (Int × Int)) 0 []) (.sl .nl (Enc.shp (Int × Int)) 0 []) (keep_clear (s := s) (pk := [7]) h2 rfl rfl) rfl), (hg_2 3 (encO (.at 7 []) (.of (mk_2 : List (Int × Int)))) (encO (.at 3 []) (.of (mk_2 : List (Int × Int)))) rfl (map_encO (r := 7) (p := []) rfl rfl))⟩ ?_
  rintro s ⟨h0, h2, h3⟩
  refine .nsq ?_
  refine .seq ?_
  refine .seq ?_
  refine run_reg ?_
  refine e_end ?_
  refine g_v0 (.int .i64 0) rfl rfl ?_
  refine g_end ?_
  refine e_end ?_
  refine renew [(0, (Enc.enc (a_1 : List (Int × Int)))), (2, (.sl .nl (Enc.shp (Int × Int)) 0 [])), (3, (encO (.at 3 []) (.of (mk_2 : List (Int × Int))))), (4, (.int .i64 0))] ⟨h0, h2, h3, rfl⟩ ?_
  rintro s ⟨h0, h2, h3, h4⟩
  refine .nsq ?_
  refine .block ?_
  refine .loop ?_
  exact t_f50o_l1 H a_1 F mk_2 0 _ ⟨h0, h2, h3, h4⟩ h
end
def e50o (F : Nat) : Ent := ⟨1000000050, da (fun (x : ((List (Int × Int)) × Unit)) => w_toIntA2S_o F x.1) (fun (r : (NL (Int × Int))) => (encO .sh (r : NL (Int × Int)))), 1, false, selF []⟩
theorem p50o {F : Nat} {x0 : (List (Int × Int))} {r : (NL (Int × Int))} (h : w_toIntA2S_o F x0 = some r) : (e50o F).den [Enc.enc x0] = some (encO .sh (r : NL (Int × Int))) := da_put (f := fun (x : ((List (Int × Int)) × Unit)) => w_toIntA2S_o F x.1) (t := fun (r : (NL (Int × Int))) => (encO .sh (r : NL (Int × Int)))) (x0, ()) h
theorem o50o {D : Den} {σ : Sig} {F : Nat} (hF : Fits2 Try.prog D σ) (H : H50o D σ F) : (e50o F).Ok Try.prog := by
  refine ok_of (f := 50) (show unk 1000000050 = 50 from rfl) (fun args r h => ?_) ⟨Try.f50, Try.func50, rfl, rfl⟩
  obtain ⟨⟨x0, _⟩, y, rfl, hy, rfl⟩ := da_open h
  exact contract_run hF (by kernel_rfl) Try.func50 rfl c50o (show 1 ≤ Try.f50.ntmps by decide) (t50o H x0 _ rfl hy)
end Go.Zq
