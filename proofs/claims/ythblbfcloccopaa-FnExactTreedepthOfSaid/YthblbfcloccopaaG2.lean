/- Functions of the program as typed functions, and that the machine runs as they say (part 2). No further condition. -/
import Derived.Test.YthblbfcloccopaaK2
import Derived.Test.YthblbfcloccopaaProg
import Derived.Test.YthblbfcloccopaaChecked
import Derived.KernelRfl
import Derived.Test.YthblbfcloccopaaG1
set_option linter.unusedVariables false
set_option linter.unusedSimpArgs false
/- Functions of the program, as typed functions, and that the machine runs as they say. -/
namespace Go.Zq
open Go.Proofs
/- loop.example/g01109/spec.l5Code -/
def A132_2 : AC := (AC.cond (O.t 8) AC.skip (AC.exit 0))
def A132_4 : AC := (AC.reg [] [(I.mk (some 9) none false (X.v (A.mov (O.t 4)))), (I.mk (some 10) none false (X.v (A.bin BinOp.add (O.t 9) (O.k (V.int IntKind.i64 (Int.ofNat 1)))))), (I.mk (some 4) none false (X.v (A.mov (O.t 10))))] [])
def A132_3 : AC := (AC.seq (AC.block 1 (AC.reg [] [(I.mk (some 11) none false (X.v (A.mov (O.t 3)))), (I.mk (some 12) none false (X.v (A.mov (O.t 0)))), (I.mk (some 13) none false (X.v (A.mov (O.t 4)))), (I.mk (some 14) none false (X.v (A.idx (O.t 12) (O.t 13) 1))), (I.mk (some 15) none false (X.v (A.load Sh.s (O.t 14)))), (I.mk (some 16) none false (X.v (A.bin BinOp.shl (O.k (V.int IntKind.i64 (Int.ofNat 1))) (O.t 15)))), (I.mk (some 17) none false (X.v (A.bin BinOp.add (O.t 11) (O.t 16)))), (I.mk (some 3) none false (X.v (A.mov (O.t 17))))] [])) A132_4)
def A132_1 : AC := (AC.seq (AC.seq (AC.reg [] [(I.mk (some 5) none false (X.v (A.mov (O.t 4)))), (I.mk (some 6) none false (X.v (A.mov (O.t 0)))), (I.mk (some 7) none false (X.v (A.len (O.t 6)))), (I.mk (some 8) none false (X.v (A.bin BinOp.lss (O.t 5) (O.t 7))))] []) A132_2) A132_3)
def A132_5 : AC := (AC.seq (AC.reg [] [(I.mk (some 18) none false (X.v (A.mov (O.t 3)))), (I.mk (some 2) none false (X.v (A.mov (O.t 18))))] []) AC.ret)
def A132_8 : AC := (AC.block 0 (AC.loop A132_1))
def A132_7 : AC := (AC.seq (AC.seq (AC.reg [] [(I.mk (some 4) none false (X.v (A.mov (O.k (V.int IntKind.i64 (Int.ofNat 0))))))] []) A132_8) A132_5)
def A132_6 : AC := (AC.seq (AC.reg [] [(I.mk (some 3) none false (X.v (A.mov (O.k (V.int IntKind.i64 (Int.ofNat 0))))))] []) A132_7)
def A132 : AC := (AC.seq (AC.reg [] [(I.mk (some 2) none false (X.v (A.mov (O.k (V.int IntKind.i64 (Int.ofNat 0))))))] []) A132_6)
def an132 : List An := []
theorem c132 : cC Try.prog Try.f132.ntmps an132 (Try.f132.body.getD .skip) = some A132 := by kernel_rfl
structure H132 (D : Den) (σ : Sig) (F : Nat) : Prop where
  mk ::
abbrev R132 (r : Int) : (Nat → V) → Prop := RR Try.prog [.tmp 2] 0 false (Enc.enc (r : Int))
section
variable {D : Den} {σ : Sig} {F : Nat} {r : Int}
def s_l5Code_l1 (F : Nat) (set_1 : (List Int))  : Nat → Int → Int → Option Int
  | 0, _, _ => none
  | k + 1, code_4, i_5 =>
    bif decide (i_5 < (set_1.length : Int)) then
      (idx set_1 i_5).bind fun e_8 =>
      (shlI .i64 1 e_8).bind fun q_9 =>
      (s_l5Code_l1 F set_1 k) (w64 (code_4 + q_9)) (w64 (i_5 + 1))
    else
      some code_4
theorem t_f132_l1 (H : H132 D σ F) (set_1 : (List Int))  : ∀ (k : Nat) (code_4 : Int) (i_5 : Int) (s : Nat → V), Facts [(0, (Enc.enc (set_1 : List Int))), (2, (.int .i64 0)), (3, (.int .i64 code_4)), (4, (.int .i64 i_5))] s → s_l5Code_l1 F set_1 k code_4 i_5 = some r → Run D σ (R132 r) (.run A132_1 [.lp A132_1, .bk 0, .sq A132_5]) s := by
  intro k
  induction k with
  | zero => intro code_4 i_5 s _ h; exact nomatch (h : (none : Option _) = some r)
  | succ k ih =>
    intro code_4 i_5 s hs h
    rw [s_l5Code_l1] at h
    obtain ⟨h0, h2, h3, h4⟩ := hs
    refine .seq ?_
    refine .seq ?_
    refine run_reg ?_
    refine e_end ?_
    refine g_v1 (t := 4) (u := (.int .i64 i_5)) (.int .i64 i_5) h4 rfl rfl ?_
    refine g_v1 (t := 0) (u := (Enc.enc (set_1 : List Int))) (Enc.enc (set_1 : List Int)) h0 rfl rfl ?_
    refine g_v (.int .i64 (set_1.length : Int)) (ev_len (xs := set_1) rfl) ?_
    refine g_v2 (t1 := 5) (t2 := 7) (u1 := (.int .i64 i_5)) (u2 := (.int .i64 (set_1.length : Int))) (.bool (decide (i_5 < (set_1.length : Int)))) rfl rfl rfl rfl ?_
    refine g_end ?_
    refine e_end ?_
    refine renew [(0, (Enc.enc (set_1 : List Int))), (2, (.int .i64 0)), (3, (.int .i64 code_4)), (4, (.int .i64 i_5)), (8, (.bool (decide (i_5 < (set_1.length : Int)))))] ⟨h0, h2, h3, h4, rfl⟩ ?_
    rintro s ⟨h0, h2, h3, h4, h8⟩
    refine .nsq ?_
    refine run_cond (t := decide (i_5 < (set_1.length : Int))) h8 h (fun h => ?_) (fun h => ?_)
    · refine .skip ?_
      refine .nsq ?_
      refine .seq ?_
      refine .block ?_
      refine run_reg ?_
      refine e_end ?_
      refine g_v1 (t := 3) (u := (.int .i64 code_4)) (.int .i64 code_4) h3 rfl rfl ?_
      refine g_v1 (t := 0) (u := (Enc.enc (set_1 : List Int))) (Enc.enc (set_1 : List Int)) h0 rfl rfl ?_
      refine g_v1 (t := 4) (u := (.int .i64 i_5)) (.int .i64 i_5) h4 rfl rfl ?_
      obtain ⟨e_8, E_e_8, h⟩ := bind_some h
      refine g_v (.ref .sh 0 [] (.int .i64 e_8)) (ev_idx (t := .sh) (lo := 0) (xs := set_1) rfl rfl E_e_8 rfl rfl) ?_
      refine g_v1 (t := 14) (u := (.ref .sh 0 [] (.int .i64 e_8))) (.int .i64 e_8) rfl rfl rfl ?_
      obtain ⟨q_9, E_q_9, h⟩ := bind_some h
      refine g_v (.int .i64 q_9) (ev_shl rfl rfl E_q_9) ?_
      refine g_v2 (t1 := 11) (t2 := 16) (u1 := (.int .i64 code_4)) (u2 := (.int .i64 q_9)) (.int .i64 (w64 (code_4 + q_9))) rfl rfl rfl rfl ?_
      refine g_v1 (t := 17) (u := (.int .i64 (w64 (code_4 + q_9)))) (.int .i64 (w64 (code_4 + q_9))) rfl rfl rfl ?_
      refine g_end ?_
      refine e_end ?_
      refine renew [(0, (Enc.enc (set_1 : List Int))), (2, (.int .i64 0)), (3, (.int .i64 (w64 (code_4 + q_9)))), (4, (.int .i64 i_5))] ⟨h0, h2, rfl, h4⟩ ?_
      rintro s ⟨h0, h2, h3, h4⟩
      refine .nbk ?_
      refine .nsq ?_
      refine run_reg ?_
      refine e_end ?_
      refine g_v1 (t := 4) (u := (.int .i64 i_5)) (.int .i64 i_5) h4 rfl rfl ?_
      refine g_v1 (t := 9) (u := (.int .i64 i_5)) (.int .i64 (w64 (i_5 + 1))) rfl rfl rfl ?_
      refine g_v1 (t := 10) (u := (.int .i64 (w64 (i_5 + 1)))) (.int .i64 (w64 (i_5 + 1))) rfl rfl rfl ?_
      refine g_end ?_
      refine e_end ?_
      refine renew [(0, (Enc.enc (set_1 : List Int))), (2, (.int .i64 0)), (3, (.int .i64 (w64 (code_4 + q_9)))), (4, (.int .i64 (w64 (i_5 + 1))))] ⟨h0, h2, h3, rfl⟩ ?_
      rintro s ⟨h0, h2, h3, h4⟩
      refine .nlp ?_
      exact ih (w64 (code_4 + q_9)) (w64 (i_5 + 1)) _ ⟨h0, h2, h3, h4⟩ h
    · refine .exit ?_
      refine .esq ?_
      refine .elp ?_
      refine .ebk ?_
      refine .nsq ?_
      refine .seq ?_
      refine run_reg ?_
      refine e_end ?_
      refine g_v1 (t := 3) (u := (.int .i64 code_4)) (.int .i64 code_4) h3 rfl rfl ?_
      refine g_v1 (t := 18) (u := (.int .i64 code_4)) (.int .i64 code_4) rfl rfl rfl ?_
      refine g_end ?_
      refine e_end ?_
      refine renew [(2, (.int .i64 code_4))] rfl ?_
      rintro s h2
      refine .nsq ?_
      refine .ret ?_
      have hr := Option.some.inj h
      subst hr
      exact rrA (res_tmp h2) rfl
def s_l5Code (F : Nat) (set_1 : (List Int)) : Option Int :=
  s_l5Code_l1 F set_1 F 0 0
theorem t132 (H : H132 D σ F) (set_1 : (List Int)) (s : Nat → V) (hs : Facts [(0, (Enc.enc (set_1 : List Int)))] s) (h : s_l5Code F set_1 = some r) : Run D σ (R132 r) (.run A132 []) s := by
  unfold s_l5Code at h
  have h0 := hs
  refine .seq ?_
  refine run_reg ?_
  refine e_end ?_
  refine g_v0 (.int .i64 0) rfl rfl ?_
  refine g_end ?_
  refine e_end ?_
  refine renew [(0, (Enc.enc (set_1 : List Int))), (2, (.int .i64 0))] ⟨h0, rfl⟩ ?_
  rintro s ⟨h0, h2⟩
  refine .nsq ?_
  refine .seq ?_
  refine run_reg ?_
  refine e_end ?_
  refine g_v0 (.int .i64 0) rfl rfl ?_
  refine g_end ?_
  refine e_end ?_
  refine renew [(0, (Enc.enc (set_1 : List Int))), (2, (.int .i64 0)), (3, (.int .i64 0))] ⟨h0, h2, rfl⟩ ?_
  rintro s ⟨h0, h2, h3⟩
  refine .nsq ?_
  refine .seq ?_
  refine .seq ?_
  refine run_reg ?_
  refine e_end ?_
  refine g_v0 (.int .i64 0) rfl rfl ?_
  refine g_end ?_
  refine e_end ?_
  refine renew [(0, (Enc.enc (set_1 : List Int))), (2, (.int .i64 0)), (3, (.int .i64 0)), (4, (.int .i64 0))] ⟨h0, h2, h3, rfl⟩ ?_
  rintro s ⟨h0, h2, h3, h4⟩
  refine .nsq ?_
  refine .block ?_
  refine .loop ?_
  exact t_f132_l1 H set_1 F 0 0 _ ⟨h0, h2, h3, h4⟩ h
end
def e132 (F : Nat) : Ent := ⟨132, dn1 (s_l5Code F) (fun (r : Int) => (Enc.enc (r : Int))), 0, false⟩
theorem o132 {D : Den} {σ : Sig} {F : Nat} (hF : Fits2 Try.prog D σ) (H : H132 D σ F) : (e132 F).Ok Try.prog := by
  refine ⟨fun args r h => ?_, ⟨Try.f132, Try.func132, rfl, rfl⟩⟩
  obtain ⟨x0, y, rfl, hy, rfl⟩ := dn1_open h
  exact contract_run hF (by kernel_rfl) Try.func132 rfl c132 (show 1 ≤ Try.f132.ntmps by decide) (t132 H x0 _ rfl hy)
/- loop.example/g01109/spec.l1Most -/
def A47_2 : AC := (AC.cond (O.t 7) (AC.seq (AC.reg [] [(I.mk (some 8) none false (X.v (A.mov (O.t 0)))), (I.mk (some 4) none false (X.v (A.mov (O.t 8))))] []) AC.ret) AC.skip)
def A47_3 : AC := (AC.seq (AC.reg [] [(I.mk (some 9) none false (X.v (A.mov (O.t 1)))), (I.mk (some 4) none false (X.v (A.mov (O.t 9))))] []) AC.ret)
def A47_1 : AC := (AC.seq (AC.seq (AC.reg [] [(I.mk (some 5) none false (X.v (A.mov (O.t 0)))), (I.mk (some 6) none false (X.v (A.mov (O.t 1)))), (I.mk (some 7) none false (X.v (A.bin BinOp.gtr (O.t 5) (O.t 6))))] []) A47_2) A47_3)
def A47 : AC := (AC.seq (AC.reg [] [(I.mk (some 4) none false (X.v (A.mov (O.k (V.int IntKind.i64 (Int.ofNat 0))))))] []) A47_1)
def an47 : List An := []
theorem c47 : cC Try.prog Try.f47.ntmps an47 (Try.f47.body.getD .skip) = some A47 := by kernel_rfl
structure H47 (D : Den) (σ : Sig) (F : Nat) : Prop where
  mk ::
abbrev R47 (r : Int) : (Nat → V) → Prop := RR Try.prog [.tmp 4] 0 false (Enc.enc (r : Int))
section
variable {D : Den} {σ : Sig} {F : Nat} {r : Int}
def s_l1Most (F : Nat) (a_1 : Int) (b_2 : Int) : Option Int :=
  bif decide (a_1 > b_2) then
    some a_1
  else
    some b_2
theorem t47 (H : H47 D σ F) (a_1 : Int) (b_2 : Int) (s : Nat → V) (hs : Facts [(0, (.int .i64 a_1)), (1, (.int .i64 b_2))] s) (h : s_l1Most F a_1 b_2 = some r) : Run D σ (R47 r) (.run A47 []) s := by
  unfold s_l1Most at h
  obtain ⟨h0, h1⟩ := hs
  refine .seq ?_
  refine run_reg ?_
  refine e_end ?_
  refine g_v0 (.int .i64 0) rfl rfl ?_
  refine g_end ?_
  refine e_end ?_
  refine renew [(0, (.int .i64 a_1)), (1, (.int .i64 b_2)), (4, (.int .i64 0))] ⟨h0, h1, rfl⟩ ?_
  rintro s ⟨h0, h1, h4⟩
  refine .nsq ?_
  refine .seq ?_
  refine .seq ?_
  refine run_reg ?_
  refine e_end ?_
  refine g_v1 (t := 0) (u := (.int .i64 a_1)) (.int .i64 a_1) h0 rfl rfl ?_
  refine g_v1 (t := 1) (u := (.int .i64 b_2)) (.int .i64 b_2) h1 rfl rfl ?_
  refine g_v2 (t1 := 5) (t2 := 6) (u1 := (.int .i64 a_1)) (u2 := (.int .i64 b_2)) (.bool (decide (a_1 > b_2))) rfl rfl rfl rfl ?_
  refine g_end ?_
  refine e_end ?_
  refine renew [(0, (.int .i64 a_1)), (1, (.int .i64 b_2)), (4, (.int .i64 0)), (7, (.bool (decide (a_1 > b_2))))] ⟨h0, h1, h4, rfl⟩ ?_
  rintro s ⟨h0, h1, h4, h7⟩
  refine .nsq ?_
  refine run_cond (t := decide (a_1 > b_2)) h7 h (fun h => ?_) (fun h => ?_)
  · refine .seq ?_
    refine run_reg ?_
    refine e_end ?_
    refine g_v1 (t := 0) (u := (.int .i64 a_1)) (.int .i64 a_1) h0 rfl rfl ?_
    refine g_v1 (t := 8) (u := (.int .i64 a_1)) (.int .i64 a_1) rfl rfl rfl ?_
    refine g_end ?_
    refine e_end ?_
    refine renew [(1, (.int .i64 b_2)), (4, (.int .i64 a_1))] ⟨h1, rfl⟩ ?_
    rintro s ⟨h1, h4⟩
    refine .nsq ?_
    refine .ret ?_
    have hr := Option.some.inj h
    subst hr
    exact rrA (res_tmp h4) rfl
  · refine .skip ?_
    refine .nsq ?_
    refine .seq ?_
    refine run_reg ?_
    refine e_end ?_
    refine g_v1 (t := 1) (u := (.int .i64 b_2)) (.int .i64 b_2) h1 rfl rfl ?_
    refine g_v1 (t := 9) (u := (.int .i64 b_2)) (.int .i64 b_2) rfl rfl rfl ?_
    refine g_end ?_
    refine e_end ?_
    refine renew [(4, (.int .i64 b_2))] rfl ?_
    rintro s h4
    refine .nsq ?_
    refine .ret ?_
    have hr := Option.some.inj h
    subst hr
    exact rrA (res_tmp h4) rfl
end
def e47 (F : Nat) : Ent := ⟨47, dn2 (s_l1Most F) (fun (r : Int) => (Enc.enc (r : Int))), 0, false⟩
theorem o47 {D : Den} {σ : Sig} {F : Nat} (hF : Fits2 Try.prog D σ) (H : H47 D σ F) : (e47 F).Ok Try.prog := by
  refine ⟨fun args r h => ?_, ⟨Try.f47, Try.func47, rfl, rfl⟩⟩
  obtain ⟨x0, x1, y, rfl, hy, rfl⟩ := dn2_open h
  exact contract_run hF (by kernel_rfl) Try.func47 rfl c47 (show 2 ≤ Try.f47.ntmps by decide) (t47 H x0 x1 _ ⟨rfl, rfl⟩ hy)
/- loop.example/g01109/spec.l1Least -/
def A133_2 : AC := (AC.cond (O.t 7) (AC.seq (AC.reg [] [(I.mk (some 8) none false (X.v (A.mov (O.t 0)))), (I.mk (some 4) none false (X.v (A.mov (O.t 8))))] []) AC.ret) AC.skip)
def A133_3 : AC := (AC.seq (AC.reg [] [(I.mk (some 9) none false (X.v (A.mov (O.t 1)))), (I.mk (some 4) none false (X.v (A.mov (O.t 9))))] []) AC.ret)
def A133_1 : AC := (AC.seq (AC.seq (AC.reg [] [(I.mk (some 5) none false (X.v (A.mov (O.t 0)))), (I.mk (some 6) none false (X.v (A.mov (O.t 1)))), (I.mk (some 7) none false (X.v (A.bin BinOp.lss (O.t 5) (O.t 6))))] []) A133_2) A133_3)
def A133 : AC := (AC.seq (AC.reg [] [(I.mk (some 4) none false (X.v (A.mov (O.k (V.int IntKind.i64 (Int.ofNat 0))))))] []) A133_1)
def an133 : List An := []
theorem c133 : cC Try.prog Try.f133.ntmps an133 (Try.f133.body.getD .skip) = some A133 := by kernel_rfl
structure H133 (D : Den) (σ : Sig) (F : Nat) : Prop where
  mk ::
abbrev R133 (r : Int) : (Nat → V) → Prop := RR Try.prog [.tmp 4] 0 false (Enc.enc (r : Int))
section
variable {D : Den} {σ : Sig} {F : Nat} {r : Int}
def s_l1Least (F : Nat) (a_1 : Int) (b_2 : Int) : Option Int :=
  bif decide (a_1 < b_2) then
    some a_1
  else
    some b_2
theorem t133 (H : H133 D σ F) (a_1 : Int) (b_2 : Int) (s : Nat → V) (hs : Facts [(0, (.int .i64 a_1)), (1, (.int .i64 b_2))] s) (h : s_l1Least F a_1 b_2 = some r) : Run D σ (R133 r) (.run A133 []) s := by
  unfold s_l1Least at h
  obtain ⟨h0, h1⟩ := hs
  refine .seq ?_
  refine run_reg ?_
  refine e_end ?_
  refine g_v0 (.int .i64 0) rfl rfl ?_
  refine g_end ?_
  refine e_end ?_
  refine renew [(0, (.int .i64 a_1)), (1, (.int .i64 b_2)), (4, (.int .i64 0))] ⟨h0, h1, rfl⟩ ?_
  rintro s ⟨h0, h1, h4⟩
  refine .nsq ?_
  refine .seq ?_
  refine .seq ?_
  refine run_reg ?_
  refine e_end ?_
  refine g_v1 (t := 0) (u := (.int .i64 a_1)) (.int .i64 a_1) h0 rfl rfl ?_
  refine g_v1 (t := 1) (u := (.int .i64 b_2)) (.int .i64 b_2) h1 rfl rfl ?_
  refine g_v2 (t1 := 5) (t2 := 6) (u1 := (.int .i64 a_1)) (u2 := (.int .i64 b_2)) (.bool (decide (a_1 < b_2))) rfl rfl rfl rfl ?_
  refine g_end ?_
  refine e_end ?_
  refine renew [(0, (.int .i64 a_1)), (1, (.int .i64 b_2)), (4, (.int .i64 0)), (7, (.bool (decide (a_1 < b_2))))] ⟨h0, h1, h4, rfl⟩ ?_
  rintro s ⟨h0, h1, h4, h7⟩
  refine .nsq ?_
  refine run_cond (t := decide (a_1 < b_2)) h7 h (fun h => ?_) (fun h => ?_)
  · refine .seq ?_
    refine run_reg ?_
    refine e_end ?_
    refine g_v1 (t := 0) (u := (.int .i64 a_1)) (.int .i64 a_1) h0 rfl rfl ?_
    refine g_v1 (t := 8) (u := (.int .i64 a_1)) (.int .i64 a_1) rfl rfl rfl ?_
    refine g_end ?_
    refine e_end ?_
    refine renew [(1, (.int .i64 b_2)), (4, (.int .i64 a_1))] ⟨h1, rfl⟩ ?_
    rintro s ⟨h1, h4⟩
    refine .nsq ?_
    refine .ret ?_
    have hr := Option.some.inj h
    subst hr
    exact rrA (res_tmp h4) rfl
  · refine .skip ?_
    refine .nsq ?_
    refine .seq ?_
    refine run_reg ?_
    refine e_end ?_
    refine g_v1 (t := 1) (u := (.int .i64 b_2)) (.int .i64 b_2) h1 rfl rfl ?_
    refine g_v1 (t := 9) (u := (.int .i64 b_2)) (.int .i64 b_2) rfl rfl rfl ?_
    refine g_end ?_
    refine e_end ?_
    refine renew [(4, (.int .i64 b_2))] rfl ?_
    rintro s h4
    refine .nsq ?_
    refine .ret ?_
    have hr := Option.some.inj h
    subst hr
    exact rrA (res_tmp h4) rfl
end
def e133 (F : Nat) : Ent := ⟨133, dn2 (s_l1Least F) (fun (r : Int) => (Enc.enc (r : Int))), 0, false⟩
theorem o133 {D : Den} {σ : Sig} {F : Nat} (hF : Fits2 Try.prog D σ) (H : H133 D σ F) : (e133 F).Ok Try.prog := by
  refine ⟨fun args r h => ?_, ⟨Try.f133, Try.func133, rfl, rfl⟩⟩
  obtain ⟨x0, x1, y, rfl, hy, rfl⟩ := dn2_open h
  exact contract_run hF (by kernel_rfl) Try.func133 rfl c133 (show 2 ≤ Try.f133.ntmps by decide) (t133 H x0 x1 _ ⟨rfl, rfl⟩ hy)
/- loop.example/g01109/spec.l7Depths -/
def A114_2 : AC := (AC.cond (O.t 15) AC.skip (AC.exit 0))
def A114_9 : AC := (AC.cond (O.t 33) AC.skip (AC.exit 2))
def A114_11 : AC := (AC.reg [] [(I.mk (some 34) none false (X.v (A.mov (O.t 8)))), (I.mk (some 35) none false (X.v (A.bin BinOp.add (O.t 34) (O.k (V.int IntKind.i64 (Int.ofNat 1)))))), (I.mk (some 8) none false (X.v (A.mov (O.t 35))))] [])
def A114_10 : AC := (AC.seq (AC.block 3 (AC.reg [] [(I.mk (some 36) none false (X.v (A.mov (O.t 7)))), (I.mk (some 37) none false (X.v (A.mov (O.t 3)))), (I.mk (some 38) none false (X.v (A.mov (O.t 6)))), (I.mk (some 39) none false (X.v (A.mov (O.t 8)))), (I.mk (some 40) none false (X.v (A.idx (O.t 38) (O.t 39) 1))), (I.mk (some 41) none false (X.v (A.load Sh.p (O.t 40)))), (I.mk (some 42) none false (X.call (O.k (V.fn 132 [] [])) [(O.t 41)])), (I.mk (some 43) none false (X.v (A.idx (O.t 37) (O.t 42) 1))), (I.mk (some 44) none false (X.v (A.load Sh.s (O.t 43)))), (I.mk (some 45) none false (X.call (O.k (V.fn 47 [] [])) [(O.t 36), (O.t 44)])), (I.mk (some 7) none false (X.v (A.mov (O.t 45))))] [])) A114_11)
def A114_8 : AC := (AC.seq (AC.seq (AC.reg [] [(I.mk (some 25) none false (X.v (A.mov (O.t 8)))), (I.mk (some 26) none false (X.v (A.mov (O.t 6)))), (I.mk (some 27) none false (X.v (A.len (O.t 26)))), (I.mk (some 28) none false (X.v (A.bin BinOp.lss (O.t 25) (O.t 27)))), (I.mk (some 29) none false (X.v (A.mov (O.t 28)))), (I.mk (some 30) (some (29, true)) false (X.v (A.mov (O.t 6)))), (I.mk (some 31) (some (29, true)) false (X.v (A.len (O.t 30)))), (I.mk (some 32) (some (29, true)) false (X.v (A.bin BinOp.gtr (O.t 31) (O.k (V.int IntKind.i64 (Int.ofNat 1)))))), (I.mk (some 33) none false (X.v (A.pick (O.t 29) (O.t 32) (O.k (V.bool false)))))] []) A114_9) A114_10)
def A114_7 : AC := (AC.block 2 (AC.loop A114_8))
def A114_17 : AC := (AC.cond (O.t 54) AC.skip (AC.exit 4))
def A114_19 : AC := (AC.reg [] [(I.mk (some 55) none false (X.v (A.mov (O.t 9)))), (I.mk (some 56) none false (X.v (A.bin BinOp.add (O.t 55) (O.k (V.int IntKind.i64 (Int.ofNat 1)))))), (I.mk (some 9) none false (X.v (A.mov (O.t 56))))] [])
def A114_18 : AC := (AC.seq (AC.block 5 (AC.reg [] [(I.mk (some 57) none false (X.v (A.mov (O.t 7)))), (I.mk (some 58) none false (X.v (A.mov (O.t 3)))), (I.mk (some 59) none false (X.v (A.mov (O.t 4)))), (I.mk (some 60) none false (X.v (A.mov (O.t 5)))), (I.mk (some 61) none false (X.v (A.mov (O.t 9)))), (I.mk (some 62) none false (X.v (A.idx (O.t 60) (O.t 61) 1))), (I.mk (some 63) none false (X.v (A.load Sh.s (O.t 62)))), (I.mk (some 64) none false (X.v (A.bin BinOp.shl (O.k (V.int IntKind.i64 (Int.ofNat 1))) (O.t 63)))), (I.mk (some 65) none false (X.v (A.bin BinOp.sub (O.t 59) (O.t 64)))), (I.mk (some 66) none false (X.v (A.idx (O.t 58) (O.t 65) 1))), (I.mk (some 67) none false (X.v (A.load Sh.s (O.t 66)))), (I.mk (some 68) none false (X.v (A.bin BinOp.add (O.k (V.int IntKind.i64 (Int.ofNat 1))) (O.t 67)))), (I.mk (some 69) none false (X.call (O.k (V.fn 133 [] [])) [(O.t 57), (O.t 68)])), (I.mk (some 7) none false (X.v (A.mov (O.t 69))))] [])) A114_19)
def A114_16 : AC := (AC.seq (AC.seq (AC.reg [] [(I.mk (some 51) none false (X.v (A.mov (O.t 9)))), (I.mk (some 52) none false (X.v (A.mov (O.t 5)))), (I.mk (some 53) none false (X.v (A.len (O.t 52)))), (I.mk (some 54) none false (X.v (A.bin BinOp.lss (O.t 51) (O.t 53))))] []) A114_17) A114_18)
def A114_15 : AC := (AC.block 4 (AC.loop A114_16))
def A114_14 : AC := (AC.seq (AC.reg [] [(I.mk (some 9) none false (X.v (A.mov (O.k (V.int IntKind.i64 (Int.ofNat 0))))))] []) A114_15)
def A114_13 : AC := (AC.cond (O.t 48) (AC.seq (AC.reg [] [(I.mk (some 49) none false (X.v (A.fld (O.t 1) 0 0))), (I.mk (some 50) none false (X.v (A.load Sh.s (O.t 49)))), (I.mk (some 7) none false (X.v (A.mov (O.t 50))))] []) A114_14) AC.skip)
def A114_20 : AC := (AC.reg [.clr [72, 73]] [(I.mk (some 70) none false (X.v (A.mov (O.t 3)))), (I.mk (some 71) none false (X.v (A.mov (O.t 7)))), (I.mk (some 72) none false (X.lit (V.int IntKind.i64 (Int.ofNat 0)) 1 [(0, 0, (O.t 71))])), (I.mk (some 73) none false (X.app Sh.s (O.t 70) (O.t 72))), (I.mk (some 3) none false (X.v (A.mov (O.t 73))))] [.home 73 3])
def A114_12 : AC := (AC.seq (AC.seq (AC.reg [] [(I.mk (some 46) none false (X.v (A.mov (O.t 6)))), (I.mk (some 47) none false (X.v (A.len (O.t 46)))), (I.mk (some 48) none false (X.v (A.bin BinOp.eql (O.t 47) (O.k (V.int IntKind.i64 (Int.ofNat 1))))))] []) A114_13) A114_20)
def A114_6 : AC := (AC.seq (AC.seq (AC.reg [] [(I.mk (some 8) none false (X.v (A.mov (O.k (V.int IntKind.i64 (Int.ofNat 0))))))] []) A114_7) A114_12)
def A114_5 : AC := (AC.seq (AC.reg [] [(I.mk (some 7) none false (X.v (A.mov (O.k (V.int IntKind.i64 (Int.ofNat 0))))))] []) A114_6)
def A114_4 : AC := (AC.seq (AC.reg [] [(I.mk (some 22) none false (X.v (A.load (Sh.ag [Sh.s, Sh.p]) (O.t 1)))), (I.mk (some 23) none false (X.v (A.mov (O.t 5)))), (I.mk (some 24) none false (X.call (O.k (V.fn 63 [] [])) [(O.t 22), (O.t 23)])), (I.mk (some 6) none false (X.v (A.mov (O.t 24))))] []) A114_5)
def A114_21 : AC := (AC.reg [] [(I.mk (some 16) none false (X.v (A.mov (O.t 4)))), (I.mk (some 17) none false (X.v (A.bin BinOp.add (O.t 16) (O.k (V.int IntKind.i64 (Int.ofNat 1)))))), (I.mk (some 4) none false (X.v (A.mov (O.t 17))))] [])
def A114_3 : AC := (AC.seq (AC.block 1 (AC.seq (AC.reg [] [(I.mk (some 18) none false (X.v (A.fld (O.t 1) 0 0))), (I.mk (some 19) none false (X.v (A.load Sh.s (O.t 18)))), (I.mk (some 20) none false (X.v (A.mov (O.t 4)))), (I.mk (some 21) none false (X.call (O.k (V.fn 78 [] [])) [(O.t 19), (O.t 20)])), (I.mk (some 5) none false (X.v (A.mov (O.t 21))))] []) A114_4)) A114_21)
def A114_1 : AC := (AC.seq (AC.seq (AC.reg [] [(I.mk (some 11) none false (X.v (A.mov (O.t 4)))), (I.mk (some 12) none false (X.v (A.fld (O.t 1) 0 0))), (I.mk (some 13) none false (X.v (A.load Sh.s (O.t 12)))), (I.mk (some 14) none false (X.v (A.bin BinOp.shl (O.k (V.int IntKind.i64 (Int.ofNat 1))) (O.t 13)))), (I.mk (some 15) none false (X.v (A.bin BinOp.lss (O.t 11) (O.t 14))))] []) A114_2) A114_3)
def A114_22 : AC := (AC.seq (AC.reg [] [(I.mk (some 74) none false (X.v (A.mov (O.t 3)))), (I.mk (some 2) none false (X.v (A.mov (O.t 74))))] [.home 3 2]) AC.ret)
def A114_25 : AC := (AC.block 0 (AC.loop A114_1))
def A114_24 : AC := (AC.seq (AC.seq (AC.reg [] [(I.mk (some 4) none false (X.v (A.mov (O.k (V.int IntKind.i64 (Int.ofNat 1))))))] []) A114_25) A114_22)
def A114_23 : AC := (AC.seq (AC.reg [.clr [10]] [(I.mk (some 10) none false (X.lit (V.int IntKind.i64 (Int.ofNat 0)) 1 [(0, 0, (O.k (V.int IntKind.i64 (Int.ofNat 0))))])), (I.mk (some 3) none false (X.v (A.mov (O.t 10))))] [.home 10 3]) A114_24)
def A114 : AC := (AC.seq (AC.reg [.clr [1]] [(I.mk (some 1) none false (X.box (O.t 0))), (I.mk (some 2) none false (X.v (A.mov (O.k (V.sl Tok.nl Sh.s 0 [])))))] []) A114_23)
def an114 : List An := [{ id := 0, pre := [.clr [1]], ep := [], lin := [], sp := [] }, { id := 1, pre := [.clr [10]], ep := [.home 10 3], lin := [], sp := [] }, { id := 18, pre := [.clr [72, 73]], ep := [.home 73 3], lin := [], sp := [] }, { id := 19, pre := [], ep := [.home 3 2], lin := [], sp := [] }]
theorem c114 : cC Try.prog Try.f114.ntmps an114 (Try.f114.body.getD .skip) = some A114 := by kernel_rfl
structure H114 (D : Den) (σ : Sig) (F : Nat) : Prop where
  c78 : ∀ x0 x1 r, s_l2Bits F x0 x1 = some r → D 78 [Enc.enc x0, Enc.enc x1] = some (Enc.enc (r : (List Int)))
  g78 : σ 78 = some (0, true)
  c63 : ∀ x0 x1 r, s_l2Parts F x0 x1 = some r → D 63 [Enc.enc x0, Enc.enc x1] = some (Enc.enc (r : (List (List Int))))
  g63 : σ 63 = some (0, true)
  c132 : ∀ x0 r, s_l5Code F x0 = some r → D 132 [Enc.enc x0] = some (Enc.enc (r : Int))
  g132 : σ 132 = some (0, false)
  c47 : ∀ x0 x1 r, s_l1Most F x0 x1 = some r → D 47 [Enc.enc x0, Enc.enc x1] = some (Enc.enc (r : Int))
  g47 : σ 47 = some (0, false)
  c133 : ∀ x0 x1 r, s_l1Least F x0 x1 = some r → D 133 [Enc.enc x0, Enc.enc x1] = some (Enc.enc (r : Int))
  g133 : σ 133 = some (0, false)
abbrev R114 (r : (List Int)) : (Nat → V) → Prop := RR Try.prog [.tmp 2] 0 true (Enc.enc (r : (List Int)))
section
variable {D : Den} {σ : Sig} {F : Nat} {r : (List Int)}
def s_l7Depths_j1 (F : Nat) (g_1 : (Int × (List (Int × Int)))) (out_52 : (List Int)) (code_53 : Int) (c1 : (List Int) → Int → Option (List Int)) (depth_138 : Int) : Option (List Int) :=
  (appL out_52 [depth_138]).bind fun ap_139 =>
  c1 ap_139 (w64 (code_53 + 1))
theorem t_f114_j1 (H : H114 D σ F) (g_1 : (Int × (List (Int × Int)))) (out_52 : (List Int)) (code_53 : Int) (c1 : (List Int) → Int → Option (List Int)) (Hc1 : ∀ (out_52 : (List Int)) (code_53 : Int) (s : Nat → V), Facts [(1, (.ref (.bx 1) 0 [] (.agg [(.int .i64 g_1.1), (Enc.enc (g_1.2 : List (Int × Int)))]))), (2, (.sl .nl (Enc.shp Int) 0 [])), (3, (encO (.at 3 []) (.of (out_52 : List Int)))), (4, (.int .i64 code_53))] s → c1 out_52 code_53 = some r → Run D σ (R114 r) (.run A114_1 [.lp A114_1, .bk 0, .sq A114_22]) s) (depth_138 : Int) (s : Nat → V) (hs : Facts [(1, (.ref (.bx 1) 0 [] (.agg [(.int .i64 g_1.1), (Enc.enc (g_1.2 : List (Int × Int)))]))), (2, (.sl .nl (Enc.shp Int) 0 [])), (3, (encO (.at 3 []) (.of (out_52 : List Int)))), (4, (.int .i64 code_53)), (7, (.int .i64 depth_138))] s) (h : s_l7Depths_j1 F g_1 out_52 code_53 c1 depth_138 = some r) : Run D σ (R114 r) (.nrm [.sq A114_20, .bk 1, .sq A114_21, .lp A114_1, .bk 0, .sq A114_22]) s := by
  unfold s_l7Depths_j1 at h
  obtain ⟨h1, h2, h3, h4, h7⟩ := hs
  refine .nsq ?_
  refine run_reg ?_
  refine e_clr ?_
  refine e_end ?_
  refine g_v1 (t := 3) (u := (encO (.at 3 []) (.of (out_52 : List Int)))) (encO (.at 3 []) (.of (out_52 : List Int))) (keep_clear (s := s) (pk := [72, 73]) h3 rfl (map_encO (r := 3) (p := []) rfl rfl)) rfl rfl ?_
  refine g_v1 (t := 7) (u := (.int .i64 depth_138)) (.int .i64 depth_138) (keep_clear (s := s) (pk := [72, 73]) h7 rfl rfl) rfl rfl ?_
  refine g_litL [(71, (.int .i64 depth_138))] [Enc.enc (depth_138 : Int)] rfl rfl rfl (gone_clear (s := s) (pk := [72, 73]) (t := 72) rfl) ?_
  obtain ⟨ap_139, E_ap_139, h⟩ := bind_some h
  refine g_app (q := 3) (p := []) (o := (.of (out_52 : List Int))) (ys := ([depth_138] : List Int)) (t2 := (.at 72 [])) (lo2 := 0) rfl rfl rfl (gone_clear (s := s) (pk := [72, 73]) (t := 73) rfl) (appN_L (o := (.of (out_52 : List Int))) E_ap_139 trivial) (fun s_11 ha_11 => ?_)
  refine g_v1 (t := 73) (u := (encO (.at 73 []) (.of (ap_139 : List Int)))) (encO (.at 73 []) (.of (ap_139 : List Int))) rfl rfl rfl ?_
  refine g_end ?_
  refine e_home (r := 73) (x := 3) (v := (encO (.at 73 []) (.of (ap_139 : List Int)))) (by exact rfl) rfl (fun s_12 hg_12 => ?_)
  refine e_end ?_
  refine renew [(1, (.ref (.bx 1) 0 [] (.agg [(.int .i64 g_1.1), (Enc.enc (g_1.2 : List (Int × Int)))]))), (2, (.sl .nl (Enc.shp Int) 0 [])), (3, (encO (.at 3 []) (.of (ap_139 : List Int)))), (4, (.int .i64 code_53))] ⟨(hg_12 1 (.ref (.bx 1) 0 [] (.agg [(.int .i64 g_1.1), (Enc.enc (g_1.2 : List (Int × Int)))])) (.ref (.bx 1) 0 [] (.agg [(.int .i64 g_1.1), (Enc.enc (g_1.2 : List (Int × Int)))])) (show s_11 1 = (.ref (.bx 1) 0 [] (.agg [(.int .i64 g_1.1), (Enc.enc (g_1.2 : List (Int × Int)))])) from keep_app ha_11 (keep_clear (s := s) (pk := [72, 73]) h1 rfl (map_bx rfl (map_agg (maps_cons rfl (maps_cons (Enc.map_enc _ (g_1.2 : List (Int × Int))) maps_nil))))) (map_bx rfl (map_agg (maps_cons rfl (maps_cons (Enc.map_enc _ (g_1.2 : List (Int × Int))) maps_nil))))) (map_bx rfl (map_agg (maps_cons rfl (maps_cons (Enc.map_enc _ (g_1.2 : List (Int × Int))) maps_nil))))), (hg_12 2 (.sl .nl (Enc.shp Int) 0 []) (.sl .nl (Enc.shp Int) 0 []) (show s_11 2 = (.sl .nl (Enc.shp Int) 0 []) from keep_app ha_11 (keep_clear (s := s) (pk := [72, 73]) h2 rfl rfl) rfl) rfl), (hg_12 3 (encO (.at 73 []) (.of (ap_139 : List Int))) (encO (.at 3 []) (.of (ap_139 : List Int))) rfl (map_encO (r := 73) (p := []) rfl rfl)), (hg_12 4 (.int .i64 code_53) (.int .i64 code_53) (show s_11 4 = (.int .i64 code_53) from keep_app ha_11 (keep_clear (s := s) (pk := [72, 73]) h4 rfl rfl) rfl) rfl)⟩ ?_
  rintro s ⟨h1, h2, h3, h4⟩
  refine .nbk ?_
  refine .nsq ?_
  refine run_reg ?_
  refine e_end ?_
  refine g_v1 (t := 4) (u := (.int .i64 code_53)) (.int .i64 code_53) h4 rfl rfl ?_
  refine g_v1 (t := 16) (u := (.int .i64 code_53)) (.int .i64 (w64 (code_53 + 1))) rfl rfl rfl ?_
  refine g_v1 (t := 17) (u := (.int .i64 (w64 (code_53 + 1)))) (.int .i64 (w64 (code_53 + 1))) rfl rfl rfl ?_
  refine g_end ?_
  refine e_end ?_
  refine renew [(1, (.ref (.bx 1) 0 [] (.agg [(.int .i64 g_1.1), (Enc.enc (g_1.2 : List (Int × Int)))]))), (2, (.sl .nl (Enc.shp Int) 0 [])), (3, (encO (.at 3 []) (.of (ap_139 : List Int)))), (4, (.int .i64 (w64 (code_53 + 1))))] ⟨h1, h2, h3, rfl⟩ ?_
  rintro s ⟨h1, h2, h3, h4⟩
  refine .nlp ?_
  exact Hc1 ap_139 (w64 (code_53 + 1)) _ ⟨h1, h2, h3, h4⟩ h
def s_l7Depths_l1 (F : Nat) (g_1 : (Int × (List (Int × Int)))) (out_52 : (List Int)) (code_53 : Int) (r_105 : (List Int)) (c1 : (List Int) → Int → Option (List Int)) : Nat → Int → Int → Option (List Int)
  | 0, _, _ => none
  | k + 1, depth_144, i_145 =>
    bif decide (i_145 < (r_105.length : Int)) then
      (idx r_105 i_145).bind fun e_150 =>
      (shlI .i64 1 e_150).bind fun q_151 =>
      (idx out_52 (w64 (code_53 - q_151))).bind fun e_152 =>
      (s_l1Least F depth_144 (w64 (1 + e_152))).bind fun r_153 =>
      (s_l7Depths_l1 F g_1 out_52 code_53 r_105 c1 k) r_153 (w64 (i_145 + 1))
    else
      s_l7Depths_j1 F g_1 out_52 code_53 c1 depth_144
theorem t_f114_l1 (H : H114 D σ F) (g_1 : (Int × (List (Int × Int)))) (out_52 : (List Int)) (code_53 : Int) (r_105 : (List Int)) (c1 : (List Int) → Int → Option (List Int)) (Hc1 : ∀ (out_52 : (List Int)) (code_53 : Int) (s : Nat → V), Facts [(1, (.ref (.bx 1) 0 [] (.agg [(.int .i64 g_1.1), (Enc.enc (g_1.2 : List (Int × Int)))]))), (2, (.sl .nl (Enc.shp Int) 0 [])), (3, (encO (.at 3 []) (.of (out_52 : List Int)))), (4, (.int .i64 code_53))] s → c1 out_52 code_53 = some r → Run D σ (R114 r) (.run A114_1 [.lp A114_1, .bk 0, .sq A114_22]) s) : ∀ (k : Nat) (depth_144 : Int) (i_145 : Int) (s : Nat → V), Facts [(1, (.ref (.bx 1) 0 [] (.agg [(.int .i64 g_1.1), (Enc.enc (g_1.2 : List (Int × Int)))]))), (2, (.sl .nl (Enc.shp Int) 0 [])), (3, (encO (.at 3 []) (.of (out_52 : List Int)))), (4, (.int .i64 code_53)), (5, (Enc.enc (r_105 : List Int))), (7, (.int .i64 depth_144)), (9, (.int .i64 i_145))] s → s_l7Depths_l1 F g_1 out_52 code_53 r_105 c1 k depth_144 i_145 = some r → Run D σ (R114 r) (.run A114_16 [.lp A114_16, .bk 4, .sq A114_20, .bk 1, .sq A114_21, .lp A114_1, .bk 0, .sq A114_22]) s := by
  intro k
  induction k with
  | zero => intro depth_144 i_145 s _ h; exact nomatch (h : (none : Option _) = some r)
  | succ k ih =>
    intro depth_144 i_145 s hs h
    rw [s_l7Depths_l1] at h
    obtain ⟨h1, h2, h3, h4, h5, h7, h9⟩ := hs
    refine .seq ?_
    refine .seq ?_
    refine run_reg ?_
    refine e_end ?_
    refine g_v1 (t := 9) (u := (.int .i64 i_145)) (.int .i64 i_145) h9 rfl rfl ?_
    refine g_v1 (t := 5) (u := (Enc.enc (r_105 : List Int))) (Enc.enc (r_105 : List Int)) h5 rfl rfl ?_
    refine g_v (.int .i64 (r_105.length : Int)) (ev_len (xs := r_105) rfl) ?_
    refine g_v2 (t1 := 51) (t2 := 53) (u1 := (.int .i64 i_145)) (u2 := (.int .i64 (r_105.length : Int))) (.bool (decide (i_145 < (r_105.length : Int)))) rfl rfl rfl rfl ?_
    refine g_end ?_
    refine e_end ?_
    refine renew [(1, (.ref (.bx 1) 0 [] (.agg [(.int .i64 g_1.1), (Enc.enc (g_1.2 : List (Int × Int)))]))), (2, (.sl .nl (Enc.shp Int) 0 [])), (3, (encO (.at 3 []) (.of (out_52 : List Int)))), (4, (.int .i64 code_53)), (5, (Enc.enc (r_105 : List Int))), (7, (.int .i64 depth_144)), (9, (.int .i64 i_145)), (54, (.bool (decide (i_145 < (r_105.length : Int)))))] ⟨h1, h2, h3, h4, h5, h7, h9, rfl⟩ ?_
    rintro s ⟨h1, h2, h3, h4, h5, h7, h9, h54⟩
    refine .nsq ?_
    refine run_cond (t := decide (i_145 < (r_105.length : Int))) h54 h (fun h => ?_) (fun h => ?_)
    · refine .skip ?_
      refine .nsq ?_
      refine .seq ?_
      refine .block ?_
      refine run_reg ?_
      refine e_end ?_
      refine g_v1 (t := 7) (u := (.int .i64 depth_144)) (.int .i64 depth_144) h7 rfl rfl ?_
      refine g_v1 (t := 3) (u := (encO (.at 3 []) (.of (out_52 : List Int)))) (encO (.at 3 []) (.of (out_52 : List Int))) h3 rfl rfl ?_
      refine g_v1 (t := 4) (u := (.int .i64 code_53)) (.int .i64 code_53) h4 rfl rfl ?_
      refine g_v1 (t := 5) (u := (Enc.enc (r_105 : List Int))) (Enc.enc (r_105 : List Int)) h5 rfl rfl ?_
      refine g_v1 (t := 9) (u := (.int .i64 i_145)) (.int .i64 i_145) h9 rfl rfl ?_
      obtain ⟨e_150, E_e_150, h⟩ := bind_some h
      refine g_v (.ref .sh 0 [] (.int .i64 e_150)) (ev_idx (t := .sh) (lo := 0) (xs := r_105) rfl rfl E_e_150 rfl rfl) ?_
      refine g_v1 (t := 62) (u := (.ref .sh 0 [] (.int .i64 e_150))) (.int .i64 e_150) rfl rfl rfl ?_
      obtain ⟨q_151, E_q_151, h⟩ := bind_some h
      refine g_v (.int .i64 q_151) (ev_shl rfl rfl E_q_151) ?_
      refine g_v2 (t1 := 59) (t2 := 64) (u1 := (.int .i64 code_53)) (u2 := (.int .i64 q_151)) (.int .i64 (w64 (code_53 - q_151))) rfl rfl rfl rfl ?_
      obtain ⟨e_152, E_e_152, h⟩ := bind_some h
      refine g_v (.ref (.at 3 []) ((w64 (code_53 - q_151)).toNat) [] (.int .i64 e_152)) (ev_idxO (o := (.of out_52)) rfl rfl E_e_152 rfl) ?_
      refine g_v1 (t := 66) (u := (.ref (.at 3 []) ((w64 (code_53 - q_151)).toNat) [] (.int .i64 e_152))) (.int .i64 e_152) rfl rfl rfl ?_
      refine g_v1 (t := 67) (u := (.int .i64 e_152)) (.int .i64 (w64 (1 + e_152))) rfl rfl rfl ?_
      obtain ⟨r_153, E_r_153, h⟩ := bind_some h
      refine g_call (m := 0) (al := false) (r := (Enc.enc (r_153 : Int))) [Enc.enc (depth_144 : Int), Enc.enc (w64 (1 + e_152) : Int)] (ta_cons (v := (.int .i64 depth_144)) rfl rfl rfl (ta_cons (v := (.int .i64 (w64 (1 + e_152)))) rfl rfl rfl ta_nil)) (H.c133 _ _ _ E_r_153) H.g133 rfl rfl rfl rfl ?_
      refine g_v1 (t := 69) (u := (.int .i64 r_153)) (.int .i64 r_153) rfl rfl rfl ?_
      refine g_end ?_
      refine e_end ?_
      refine renew [(1, (.ref (.bx 1) 0 [] (.agg [(.int .i64 g_1.1), (Enc.enc (g_1.2 : List (Int × Int)))]))), (2, (.sl .nl (Enc.shp Int) 0 [])), (3, (encO (.at 3 []) (.of (out_52 : List Int)))), (4, (.int .i64 code_53)), (5, (Enc.enc (r_105 : List Int))), (7, (.int .i64 r_153)), (9, (.int .i64 i_145))] ⟨h1, h2, h3, h4, h5, rfl, h9⟩ ?_
      rintro s ⟨h1, h2, h3, h4, h5, h7, h9⟩
      refine .nbk ?_
      refine .nsq ?_
      refine run_reg ?_
      refine e_end ?_
      refine g_v1 (t := 9) (u := (.int .i64 i_145)) (.int .i64 i_145) h9 rfl rfl ?_
      refine g_v1 (t := 55) (u := (.int .i64 i_145)) (.int .i64 (w64 (i_145 + 1))) rfl rfl rfl ?_
      refine g_v1 (t := 56) (u := (.int .i64 (w64 (i_145 + 1)))) (.int .i64 (w64 (i_145 + 1))) rfl rfl rfl ?_
      refine g_end ?_
      refine e_end ?_
      refine renew [(1, (.ref (.bx 1) 0 [] (.agg [(.int .i64 g_1.1), (Enc.enc (g_1.2 : List (Int × Int)))]))), (2, (.sl .nl (Enc.shp Int) 0 [])), (3, (encO (.at 3 []) (.of (out_52 : List Int)))), (4, (.int .i64 code_53)), (5, (Enc.enc (r_105 : List Int))), (7, (.int .i64 r_153)), (9, (.int .i64 (w64 (i_145 + 1))))] ⟨h1, h2, h3, h4, h5, h7, rfl⟩ ?_
      rintro s ⟨h1, h2, h3, h4, h5, h7, h9⟩
      refine .nlp ?_
      exact ih r_153 (w64 (i_145 + 1)) _ ⟨h1, h2, h3, h4, h5, h7, h9⟩ h
    · refine .exit ?_
      refine .esq ?_
      refine .elp ?_
      refine .ebk ?_
      exact t_f114_j1 H g_1 out_52 code_53 c1 Hc1 depth_144 _ ⟨h1, h2, h3, h4, h7⟩ h
def s_l7Depths_j2 (F : Nat) (g_1 : (Int × (List (Int × Int)))) (out_52 : (List Int)) (code_53 : Int) (r_105 : (List Int)) (r_106 : (List (List Int))) (depth_112 : Int) (j_113 : Int) (c1 : (List Int) → Int → Option (List Int)) (c8 : Int → Int → Option (List Int)) (t33_119 : Bool) : Option (List Int) :=
  bif t33_119 then
    (idx r_106 j_113).bind fun e_120 =>
    (s_l5Code F e_120).bind fun r_121 =>
    (idx out_52 r_121).bind fun e_122 =>
    (s_l1Most F depth_112 e_122).bind fun r_123 =>
    c8 r_123 (w64 (j_113 + 1))
  else
    bif ((r_106.length : Int) == 1) then
      s_l7Depths_l1 F g_1 out_52 code_53 r_105 c1 F g_1.1 0
    else
      s_l7Depths_j1 F g_1 out_52 code_53 c1 depth_112
theorem t_f114_j2 (H : H114 D σ F) (g_1 : (Int × (List (Int × Int)))) (out_52 : (List Int)) (code_53 : Int) (r_105 : (List Int)) (r_106 : (List (List Int))) (depth_112 : Int) (j_113 : Int) (c1 : (List Int) → Int → Option (List Int)) (Hc1 : ∀ (out_52 : (List Int)) (code_53 : Int) (s : Nat → V), Facts [(1, (.ref (.bx 1) 0 [] (.agg [(.int .i64 g_1.1), (Enc.enc (g_1.2 : List (Int × Int)))]))), (2, (.sl .nl (Enc.shp Int) 0 [])), (3, (encO (.at 3 []) (.of (out_52 : List Int)))), (4, (.int .i64 code_53))] s → c1 out_52 code_53 = some r → Run D σ (R114 r) (.run A114_1 [.lp A114_1, .bk 0, .sq A114_22]) s) (c8 : Int → Int → Option (List Int)) (Hc8 : ∀ (depth_112 : Int) (j_113 : Int) (s : Nat → V), Facts [(1, (.ref (.bx 1) 0 [] (.agg [(.int .i64 g_1.1), (Enc.enc (g_1.2 : List (Int × Int)))]))), (2, (.sl .nl (Enc.shp Int) 0 [])), (3, (encO (.at 3 []) (.of (out_52 : List Int)))), (4, (.int .i64 code_53)), (5, (Enc.enc (r_105 : List Int))), (6, (Enc.enc (r_106 : List (List Int)))), (7, (.int .i64 depth_112)), (8, (.int .i64 j_113))] s → c8 depth_112 j_113 = some r → Run D σ (R114 r) (.run A114_8 [.lp A114_8, .bk 2, .sq A114_12, .bk 1, .sq A114_21, .lp A114_1, .bk 0, .sq A114_22]) s) (t33_119 : Bool) (s : Nat → V) (hs : Facts [(1, (.ref (.bx 1) 0 [] (.agg [(.int .i64 g_1.1), (Enc.enc (g_1.2 : List (Int × Int)))]))), (2, (.sl .nl (Enc.shp Int) 0 [])), (3, (encO (.at 3 []) (.of (out_52 : List Int)))), (4, (.int .i64 code_53)), (5, (Enc.enc (r_105 : List Int))), (6, (Enc.enc (r_106 : List (List Int)))), (7, (.int .i64 depth_112)), (8, (.int .i64 j_113)), (33, (.bool t33_119))] s) (h : s_l7Depths_j2 F g_1 out_52 code_53 r_105 r_106 depth_112 j_113 c1 c8 t33_119 = some r) : Run D σ (R114 r) (.nrm [.sq A114_9, .sq A114_10, .lp A114_8, .bk 2, .sq A114_12, .bk 1, .sq A114_21, .lp A114_1, .bk 0, .sq A114_22]) s := by
  unfold s_l7Depths_j2 at h
  obtain ⟨h1, h2, h3, h4, h5, h6, h7, h8, h33⟩ := hs
  refine .nsq ?_
  refine run_cond (t := t33_119) h33 h (fun h => ?_) (fun h => ?_)
  · refine .skip ?_
    refine .nsq ?_
    refine .seq ?_
    refine .block ?_
    refine run_reg ?_
    refine e_end ?_
    refine g_v1 (t := 7) (u := (.int .i64 depth_112)) (.int .i64 depth_112) h7 rfl rfl ?_
    refine g_v1 (t := 3) (u := (encO (.at 3 []) (.of (out_52 : List Int)))) (encO (.at 3 []) (.of (out_52 : List Int))) h3 rfl rfl ?_
    refine g_v1 (t := 6) (u := (Enc.enc (r_106 : List (List Int)))) (Enc.enc (r_106 : List (List Int))) h6 rfl rfl ?_
    refine g_v1 (t := 8) (u := (.int .i64 j_113)) (.int .i64 j_113) h8 rfl rfl ?_
    obtain ⟨e_120, E_e_120, h⟩ := bind_some h
    refine g_v (.ref .sh 0 [] (Enc.enc (e_120 : List Int))) (ev_idx (t := .sh) (lo := 0) (xs := r_106) rfl rfl E_e_120 rfl rfl) ?_
    refine g_v1 (t := 40) (u := (.ref .sh 0 [] (Enc.enc (e_120 : List Int)))) (Enc.enc (e_120 : List Int)) rfl rfl rfl ?_
    obtain ⟨r_121, E_r_121, h⟩ := bind_some h
    refine g_call (m := 0) (al := false) (r := (Enc.enc (r_121 : Int))) [Enc.enc (e_120 : (List Int))] (ta_cons (v := (Enc.enc (e_120 : List Int))) rfl rfl (Enc.erase_enc (e_120 : (List Int))) ta_nil) (H.c132 _ _ E_r_121) H.g132 rfl rfl rfl rfl ?_
    obtain ⟨e_122, E_e_122, h⟩ := bind_some h
    refine g_v (.ref (.at 3 []) r_121.toNat [] (.int .i64 e_122)) (ev_idxO (o := (.of out_52)) rfl rfl E_e_122 rfl) ?_
    refine g_v1 (t := 43) (u := (.ref (.at 3 []) r_121.toNat [] (.int .i64 e_122))) (.int .i64 e_122) rfl rfl rfl ?_
    obtain ⟨r_123, E_r_123, h⟩ := bind_some h
    refine g_call (m := 0) (al := false) (r := (Enc.enc (r_123 : Int))) [Enc.enc (depth_112 : Int), Enc.enc (e_122 : Int)] (ta_cons (v := (.int .i64 depth_112)) rfl rfl rfl (ta_cons (v := (.int .i64 e_122)) rfl rfl rfl ta_nil)) (H.c47 _ _ _ E_r_123) H.g47 rfl rfl rfl rfl ?_
    refine g_v1 (t := 45) (u := (.int .i64 r_123)) (.int .i64 r_123) rfl rfl rfl ?_
    refine g_end ?_
    refine e_end ?_
    refine renew [(1, (.ref (.bx 1) 0 [] (.agg [(.int .i64 g_1.1), (Enc.enc (g_1.2 : List (Int × Int)))]))), (2, (.sl .nl (Enc.shp Int) 0 [])), (3, (encO (.at 3 []) (.of (out_52 : List Int)))), (4, (.int .i64 code_53)), (5, (Enc.enc (r_105 : List Int))), (6, (Enc.enc (r_106 : List (List Int)))), (7, (.int .i64 r_123)), (8, (.int .i64 j_113))] ⟨h1, h2, h3, h4, h5, h6, rfl, h8⟩ ?_
    rintro s ⟨h1, h2, h3, h4, h5, h6, h7, h8⟩
    refine .nbk ?_
    refine .nsq ?_
    refine run_reg ?_
    refine e_end ?_
    refine g_v1 (t := 8) (u := (.int .i64 j_113)) (.int .i64 j_113) h8 rfl rfl ?_
    refine g_v1 (t := 34) (u := (.int .i64 j_113)) (.int .i64 (w64 (j_113 + 1))) rfl rfl rfl ?_
    refine g_v1 (t := 35) (u := (.int .i64 (w64 (j_113 + 1)))) (.int .i64 (w64 (j_113 + 1))) rfl rfl rfl ?_
    refine g_end ?_
    refine e_end ?_
    refine renew [(1, (.ref (.bx 1) 0 [] (.agg [(.int .i64 g_1.1), (Enc.enc (g_1.2 : List (Int × Int)))]))), (2, (.sl .nl (Enc.shp Int) 0 [])), (3, (encO (.at 3 []) (.of (out_52 : List Int)))), (4, (.int .i64 code_53)), (5, (Enc.enc (r_105 : List Int))), (6, (Enc.enc (r_106 : List (List Int)))), (7, (.int .i64 r_123)), (8, (.int .i64 (w64 (j_113 + 1))))] ⟨h1, h2, h3, h4, h5, h6, h7, rfl⟩ ?_
    rintro s ⟨h1, h2, h3, h4, h5, h6, h7, h8⟩
    refine .nlp ?_
    exact Hc8 r_123 (w64 (j_113 + 1)) _ ⟨h1, h2, h3, h4, h5, h6, h7, h8⟩ h
  · refine .exit ?_
    refine .esq ?_
    refine .elp ?_
    refine .ebk ?_
    refine .nsq ?_
    refine .seq ?_
    refine .seq ?_
    refine run_reg ?_
    refine e_end ?_
    refine g_v1 (t := 6) (u := (Enc.enc (r_106 : List (List Int)))) (Enc.enc (r_106 : List (List Int))) h6 rfl rfl ?_
    refine g_v (.int .i64 (r_106.length : Int)) (ev_len (xs := r_106) rfl) ?_
    refine g_v1 (t := 47) (u := (.int .i64 (r_106.length : Int))) (.bool ((r_106.length : Int) == 1)) rfl rfl rfl ?_
    refine g_end ?_
    refine e_end ?_
    refine renew [(1, (.ref (.bx 1) 0 [] (.agg [(.int .i64 g_1.1), (Enc.enc (g_1.2 : List (Int × Int)))]))), (2, (.sl .nl (Enc.shp Int) 0 [])), (3, (encO (.at 3 []) (.of (out_52 : List Int)))), (4, (.int .i64 code_53)), (5, (Enc.enc (r_105 : List Int))), (7, (.int .i64 depth_112)), (48, (.bool ((r_106.length : Int) == 1)))] ⟨h1, h2, h3, h4, h5, h7, rfl⟩ ?_
    rintro s ⟨h1, h2, h3, h4, h5, h7, h48⟩
    refine .nsq ?_
    refine run_cond (t := ((r_106.length : Int) == 1)) h48 h (fun h => ?_) (fun h => ?_)
    · refine .seq ?_
      refine run_reg ?_
      refine e_end ?_
      refine g_v1 (t := 1) (u := (.ref (.bx 1) 0 [] (.agg [(.int .i64 g_1.1), (Enc.enc (g_1.2 : List (Int × Int)))]))) (.ref (.bx 1) 0 [0] (.int .i64 g_1.1)) h1 rfl rfl ?_
      refine g_v1 (t := 49) (u := (.ref (.bx 1) 0 [0] (.int .i64 g_1.1))) (.int .i64 g_1.1) rfl rfl rfl ?_
      refine g_v1 (t := 50) (u := (.int .i64 g_1.1)) (.int .i64 g_1.1) rfl rfl rfl ?_
      refine g_end ?_
      refine e_end ?_
      refine renew [(1, (.ref (.bx 1) 0 [] (.agg [(.int .i64 g_1.1), (Enc.enc (g_1.2 : List (Int × Int)))]))), (2, (.sl .nl (Enc.shp Int) 0 [])), (3, (encO (.at 3 []) (.of (out_52 : List Int)))), (4, (.int .i64 code_53)), (5, (Enc.enc (r_105 : List Int))), (7, (.int .i64 g_1.1))] ⟨h1, h2, h3, h4, h5, rfl⟩ ?_
      rintro s ⟨h1, h2, h3, h4, h5, h7⟩
      refine .nsq ?_
      refine .seq ?_
      refine run_reg ?_
      refine e_end ?_
      refine g_v0 (.int .i64 0) rfl rfl ?_
      refine g_end ?_
      refine e_end ?_
      refine renew [(1, (.ref (.bx 1) 0 [] (.agg [(.int .i64 g_1.1), (Enc.enc (g_1.2 : List (Int × Int)))]))), (2, (.sl .nl (Enc.shp Int) 0 [])), (3, (encO (.at 3 []) (.of (out_52 : List Int)))), (4, (.int .i64 code_53)), (5, (Enc.enc (r_105 : List Int))), (7, (.int .i64 g_1.1)), (9, (.int .i64 0))] ⟨h1, h2, h3, h4, h5, h7, rfl⟩ ?_
      rintro s ⟨h1, h2, h3, h4, h5, h7, h9⟩
      refine .nsq ?_
      refine .block ?_
      refine .loop ?_
      exact t_f114_l1 H g_1 out_52 code_53 r_105 c1 Hc1 F g_1.1 0 _ ⟨h1, h2, h3, h4, h5, h7, h9⟩ h
    · refine .skip ?_
      exact t_f114_j1 H g_1 out_52 code_53 c1 Hc1 depth_112 _ ⟨h1, h2, h3, h4, h7⟩ h
def s_l7Depths_l2 (F : Nat) (g_1 : (Int × (List (Int × Int)))) (out_52 : (List Int)) (code_53 : Int) (r_105 : (List Int)) (r_106 : (List (List Int))) (c1 : (List Int) → Int → Option (List Int)) : Nat → Int → Int → Option (List Int)
  | 0, _, _ => none
  | k + 1, depth_112, j_113 =>
    bif decide (j_113 < (r_106.length : Int)) then
      s_l7Depths_j2 F g_1 out_52 code_53 r_105 r_106 depth_112 j_113 c1 (s_l7Depths_l2 F g_1 out_52 code_53 r_105 r_106 c1 k) (decide ((r_106.length : Int) > 1))
    else
      s_l7Depths_j2 F g_1 out_52 code_53 r_105 r_106 depth_112 j_113 c1 (s_l7Depths_l2 F g_1 out_52 code_53 r_105 r_106 c1 k) false
theorem t_f114_l2 (H : H114 D σ F) (g_1 : (Int × (List (Int × Int)))) (out_52 : (List Int)) (code_53 : Int) (r_105 : (List Int)) (r_106 : (List (List Int))) (c1 : (List Int) → Int → Option (List Int)) (Hc1 : ∀ (out_52 : (List Int)) (code_53 : Int) (s : Nat → V), Facts [(1, (.ref (.bx 1) 0 [] (.agg [(.int .i64 g_1.1), (Enc.enc (g_1.2 : List (Int × Int)))]))), (2, (.sl .nl (Enc.shp Int) 0 [])), (3, (encO (.at 3 []) (.of (out_52 : List Int)))), (4, (.int .i64 code_53))] s → c1 out_52 code_53 = some r → Run D σ (R114 r) (.run A114_1 [.lp A114_1, .bk 0, .sq A114_22]) s) : ∀ (k : Nat) (depth_112 : Int) (j_113 : Int) (s : Nat → V), Facts [(1, (.ref (.bx 1) 0 [] (.agg [(.int .i64 g_1.1), (Enc.enc (g_1.2 : List (Int × Int)))]))), (2, (.sl .nl (Enc.shp Int) 0 [])), (3, (encO (.at 3 []) (.of (out_52 : List Int)))), (4, (.int .i64 code_53)), (5, (Enc.enc (r_105 : List Int))), (6, (Enc.enc (r_106 : List (List Int)))), (7, (.int .i64 depth_112)), (8, (.int .i64 j_113))] s → s_l7Depths_l2 F g_1 out_52 code_53 r_105 r_106 c1 k depth_112 j_113 = some r → Run D σ (R114 r) (.run A114_8 [.lp A114_8, .bk 2, .sq A114_12, .bk 1, .sq A114_21, .lp A114_1, .bk 0, .sq A114_22]) s := by
  intro k
  induction k with
  | zero => intro depth_112 j_113 s _ h; exact nomatch (h : (none : Option _) = some r)
  | succ k ih =>
    intro depth_112 j_113 s hs h
    rw [s_l7Depths_l2] at h
    obtain ⟨h1, h2, h3, h4, h5, h6, h7, h8⟩ := hs
    refine .seq ?_
    refine .seq ?_
    refine run_reg ?_
    refine e_end ?_
    refine g_v1 (t := 8) (u := (.int .i64 j_113)) (.int .i64 j_113) h8 rfl rfl ?_
    refine g_v1 (t := 6) (u := (Enc.enc (r_106 : List (List Int)))) (Enc.enc (r_106 : List (List Int))) h6 rfl rfl ?_
    refine g_v (.int .i64 (r_106.length : Int)) (ev_len (xs := r_106) rfl) ?_
    refine g_v2 (t1 := 25) (t2 := 27) (u1 := (.int .i64 j_113)) (u2 := (.int .i64 (r_106.length : Int))) (.bool (decide (j_113 < (r_106.length : Int)))) rfl rfl rfl rfl ?_
    refine g_v1 (t := 28) (u := (.bool (decide (j_113 < (r_106.length : Int))))) (.bool (decide (j_113 < (r_106.length : Int)))) rfl rfl rfl ?_
    refine split_on (c := decide (j_113 < (r_106.length : Int))) h (fun hg5 h => ?_) (fun hg5 h => ?_)
    · refine g_yes (Eq.trans (b := .bool (decide (j_113 < (r_106.length : Int)))) rfl (congrArg V.bool hg5)) (g_v1 (t := 6) (u := (Enc.enc (r_106 : List (List Int)))) (Enc.enc (r_106 : List (List Int))) h6 rfl rfl ?_)
      refine g_yes (Eq.trans (b := .bool (decide (j_113 < (r_106.length : Int)))) rfl (congrArg V.bool hg5)) (g_v (.int .i64 (r_106.length : Int)) (ev_len (xs := r_106) rfl) ?_)
      refine g_yes (Eq.trans (b := .bool (decide (j_113 < (r_106.length : Int)))) rfl (congrArg V.bool hg5)) (g_v1 (t := 31) (u := (.int .i64 (r_106.length : Int))) (.bool (decide ((r_106.length : Int) > 1))) rfl rfl rfl ?_)
      refine g_v2 (t1 := 29) (t2 := 32) (u1 := (.bool true)) (u2 := (.bool (decide ((r_106.length : Int) > 1)))) (.bool (decide ((r_106.length : Int) > 1))) (Eq.trans (b := .bool (decide (j_113 < (r_106.length : Int)))) rfl (congrArg V.bool hg5)) rfl rfl rfl ?_
      refine g_end ?_
      refine e_end ?_
      refine renew [(1, (.ref (.bx 1) 0 [] (.agg [(.int .i64 g_1.1), (Enc.enc (g_1.2 : List (Int × Int)))]))), (2, (.sl .nl (Enc.shp Int) 0 [])), (3, (encO (.at 3 []) (.of (out_52 : List Int)))), (4, (.int .i64 code_53)), (5, (Enc.enc (r_105 : List Int))), (6, (Enc.enc (r_106 : List (List Int)))), (7, (.int .i64 depth_112)), (8, (.int .i64 j_113)), (33, (.bool (decide ((r_106.length : Int) > 1))))] ⟨h1, h2, h3, h4, h5, h6, h7, h8, rfl⟩ ?_
      rintro s ⟨h1, h2, h3, h4, h5, h6, h7, h8, h33⟩
      exact t_f114_j2 H g_1 out_52 code_53 r_105 r_106 depth_112 j_113 c1 Hc1 (s_l7Depths_l2 F g_1 out_52 code_53 r_105 r_106 c1 k) ih (decide ((r_106.length : Int) > 1)) _ ⟨h1, h2, h3, h4, h5, h6, h7, h8, h33⟩ h
    · refine g_no (Eq.trans (b := .bool (decide (j_113 < (r_106.length : Int)))) rfl (congrArg V.bool hg5)) ?_
      refine g_no (Eq.trans (b := .bool (decide (j_113 < (r_106.length : Int)))) rfl (congrArg V.bool hg5)) ?_
      refine g_no (Eq.trans (b := .bool (decide (j_113 < (r_106.length : Int)))) rfl (congrArg V.bool hg5)) ?_
      refine g_v2 (t1 := 29) (t2 := 32) (u1 := (.bool false)) (u2 := (.tup [])) (.bool false) (Eq.trans (b := .bool (decide (j_113 < (r_106.length : Int)))) rfl (congrArg V.bool hg5)) rfl rfl rfl ?_
      refine g_end ?_
      refine e_end ?_
      refine renew [(1, (.ref (.bx 1) 0 [] (.agg [(.int .i64 g_1.1), (Enc.enc (g_1.2 : List (Int × Int)))]))), (2, (.sl .nl (Enc.shp Int) 0 [])), (3, (encO (.at 3 []) (.of (out_52 : List Int)))), (4, (.int .i64 code_53)), (5, (Enc.enc (r_105 : List Int))), (6, (Enc.enc (r_106 : List (List Int)))), (7, (.int .i64 depth_112)), (8, (.int .i64 j_113)), (33, (.bool false))] ⟨h1, h2, h3, h4, h5, h6, h7, h8, rfl⟩ ?_
      rintro s ⟨h1, h2, h3, h4, h5, h6, h7, h8, h33⟩
      exact t_f114_j2 H g_1 out_52 code_53 r_105 r_106 depth_112 j_113 c1 Hc1 (s_l7Depths_l2 F g_1 out_52 code_53 r_105 r_106 c1 k) ih false _ ⟨h1, h2, h3, h4, h5, h6, h7, h8, h33⟩ h
def s_l7Depths_l3 (F : Nat) (g_1 : (Int × (List (Int × Int))))  : Nat → (List Int) → Int → Option (List Int)
  | 0, _, _ => none
  | k + 1, out_52, code_53 =>
    (shlI .i64 1 g_1.1).bind fun q_104 =>
    bif decide (code_53 < q_104) then
      (s_l2Bits F g_1.1 code_53).bind fun r_105 =>
      (s_l2Parts F g_1 r_105).bind fun r_106 =>
      s_l7Depths_l2 F g_1 out_52 code_53 r_105 r_106 (s_l7Depths_l3 F g_1 k) F 0 0
    else
      some out_52
theorem t_f114_l3 (H : H114 D σ F) (g_1 : (Int × (List (Int × Int))))  : ∀ (k : Nat) (out_52 : (List Int)) (code_53 : Int) (s : Nat → V), Facts [(1, (.ref (.bx 1) 0 [] (.agg [(.int .i64 g_1.1), (Enc.enc (g_1.2 : List (Int × Int)))]))), (2, (.sl .nl (Enc.shp Int) 0 [])), (3, (encO (.at 3 []) (.of (out_52 : List Int)))), (4, (.int .i64 code_53))] s → s_l7Depths_l3 F g_1 k out_52 code_53 = some r → Run D σ (R114 r) (.run A114_1 [.lp A114_1, .bk 0, .sq A114_22]) s := by
  intro k
  induction k with
  | zero => intro out_52 code_53 s _ h; exact nomatch (h : (none : Option _) = some r)
  | succ k ih =>
    intro out_52 code_53 s hs h
    rw [s_l7Depths_l3] at h
    obtain ⟨h1, h2, h3, h4⟩ := hs
    refine .seq ?_
    refine .seq ?_
    refine run_reg ?_
    refine e_end ?_
    refine g_v1 (t := 4) (u := (.int .i64 code_53)) (.int .i64 code_53) h4 rfl rfl ?_
    refine g_v1 (t := 1) (u := (.ref (.bx 1) 0 [] (.agg [(.int .i64 g_1.1), (Enc.enc (g_1.2 : List (Int × Int)))]))) (.ref (.bx 1) 0 [0] (.int .i64 g_1.1)) h1 rfl rfl ?_
    refine g_v1 (t := 12) (u := (.ref (.bx 1) 0 [0] (.int .i64 g_1.1))) (.int .i64 g_1.1) rfl rfl rfl ?_
    obtain ⟨q_104, E_q_104, h⟩ := bind_some h
    refine g_v (.int .i64 q_104) (ev_shl rfl rfl E_q_104) ?_
    refine g_v2 (t1 := 11) (t2 := 14) (u1 := (.int .i64 code_53)) (u2 := (.int .i64 q_104)) (.bool (decide (code_53 < q_104))) rfl rfl rfl rfl ?_
    refine g_end ?_
    refine e_end ?_
    refine renew [(1, (.ref (.bx 1) 0 [] (.agg [(.int .i64 g_1.1), (Enc.enc (g_1.2 : List (Int × Int)))]))), (2, (.sl .nl (Enc.shp Int) 0 [])), (3, (encO (.at 3 []) (.of (out_52 : List Int)))), (4, (.int .i64 code_53)), (15, (.bool (decide (code_53 < q_104))))] ⟨h1, h2, h3, h4, rfl⟩ ?_
    rintro s ⟨h1, h2, h3, h4, h15⟩
    refine .nsq ?_
    refine run_cond (t := decide (code_53 < q_104)) h15 h (fun h => ?_) (fun h => ?_)
    · refine .skip ?_
      refine .nsq ?_
      refine .seq ?_
      refine .block ?_
      refine .seq ?_
      refine run_reg ?_
      refine e_end ?_
      refine g_v1 (t := 1) (u := (.ref (.bx 1) 0 [] (.agg [(.int .i64 g_1.1), (Enc.enc (g_1.2 : List (Int × Int)))]))) (.ref (.bx 1) 0 [0] (.int .i64 g_1.1)) h1 rfl rfl ?_
      refine g_v1 (t := 18) (u := (.ref (.bx 1) 0 [0] (.int .i64 g_1.1))) (.int .i64 g_1.1) rfl rfl rfl ?_
      refine g_v1 (t := 4) (u := (.int .i64 code_53)) (.int .i64 code_53) h4 rfl rfl ?_
      obtain ⟨r_105, E_r_105, h⟩ := bind_some h
      refine g_call (m := 0) (al := true) (r := (Enc.enc (r_105 : (List Int)))) [Enc.enc (g_1.1 : Int), Enc.enc (code_53 : Int)] (ta_cons (v := (.int .i64 g_1.1)) rfl rfl rfl (ta_cons (v := (.int .i64 code_53)) rfl rfl rfl ta_nil)) (H.c78 _ _ _ E_r_105) H.g78 (hal_of (ht_cons (v := (.int .i64 g_1.1)) rfl rfl rfl (ht_cons (v := (.int .i64 code_53)) rfl rfl rfl ht_nil))) rfl rfl rfl ?_
      refine g_v1 (t := 21) (u := (Enc.enc (r_105 : List Int))) (Enc.enc (r_105 : List Int)) rfl rfl rfl ?_
      refine g_end ?_
      refine e_end ?_
      refine renew [(1, (.ref (.bx 1) 0 [] (.agg [(.int .i64 g_1.1), (Enc.enc (g_1.2 : List (Int × Int)))]))), (2, (.sl .nl (Enc.shp Int) 0 [])), (3, (encO (.at 3 []) (.of (out_52 : List Int)))), (4, (.int .i64 code_53)), (5, (Enc.enc (r_105 : List Int)))] ⟨h1, h2, h3, h4, rfl⟩ ?_
      rintro s ⟨h1, h2, h3, h4, h5⟩
      refine .nsq ?_
      refine .seq ?_
      refine run_reg ?_
      refine e_end ?_
      refine g_v1 (t := 1) (u := (.ref (.bx 1) 0 [] (.agg [(.int .i64 g_1.1), (Enc.enc (g_1.2 : List (Int × Int)))]))) (.agg [(.int .i64 g_1.1), (Enc.enc (g_1.2 : List (Int × Int)))]) h1 rfl rfl ?_
      refine g_v1 (t := 5) (u := (Enc.enc (r_105 : List Int))) (Enc.enc (r_105 : List Int)) h5 rfl rfl ?_
      obtain ⟨r_106, E_r_106, h⟩ := bind_some h
      refine g_call (m := 0) (al := true) (r := (Enc.enc (r_106 : (List (List Int))))) [Enc.enc (g_1 : (Int × (List (Int × Int)))), Enc.enc (r_105 : (List Int))] (ta_cons (v := (.agg [(.int .i64 g_1.1), (Enc.enc (g_1.2 : List (Int × Int)))])) rfl rfl (Enc.erase_enc (g_1 : (Int × (List (Int × Int))))) (ta_cons (v := (Enc.enc (r_105 : List Int))) rfl rfl (Enc.erase_enc (r_105 : (List Int))) ta_nil)) (H.c63 _ _ _ E_r_106) H.g63 (hal_of (ht_cons (v := (.agg [(.int .i64 g_1.1), (Enc.enc (g_1.2 : List (Int × Int)))])) rfl rfl rfl (ht_cons (v := (Enc.enc (r_105 : List Int))) rfl rfl rfl ht_nil))) rfl rfl rfl ?_
      refine g_v1 (t := 24) (u := (Enc.enc (r_106 : List (List Int)))) (Enc.enc (r_106 : List (List Int))) rfl rfl rfl ?_
      refine g_end ?_
      refine e_end ?_
      refine renew [(1, (.ref (.bx 1) 0 [] (.agg [(.int .i64 g_1.1), (Enc.enc (g_1.2 : List (Int × Int)))]))), (2, (.sl .nl (Enc.shp Int) 0 [])), (3, (encO (.at 3 []) (.of (out_52 : List Int)))), (4, (.int .i64 code_53)), (5, (Enc.enc (r_105 : List Int))), (6, (Enc.enc (r_106 : List (List Int))))] ⟨h1, h2, h3, h4, h5, rfl⟩ ?_
      rintro s ⟨h1, h2, h3, h4, h5, h6⟩
      refine .nsq ?_
      refine .seq ?_
      refine run_reg ?_
      refine e_end ?_
      refine g_v0 (.int .i64 0) rfl rfl ?_
      refine g_end ?_
      refine e_end ?_
      refine renew [(1, (.ref (.bx 1) 0 [] (.agg [(.int .i64 g_1.1), (Enc.enc (g_1.2 : List (Int × Int)))]))), (2, (.sl .nl (Enc.shp Int) 0 [])), (3, (encO (.at 3 []) (.of (out_52 : List Int)))), (4, (.int .i64 code_53)), (5, (Enc.enc (r_105 : List Int))), (6, (Enc.enc (r_106 : List (List Int)))), (7, (.int .i64 0))] ⟨h1, h2, h3, h4, h5, h6, rfl⟩ ?_
      rintro s ⟨h1, h2, h3, h4, h5, h6, h7⟩
      refine .nsq ?_
      refine .seq ?_
      refine .seq ?_
      refine run_reg ?_
      refine e_end ?_
      refine g_v0 (.int .i64 0) rfl rfl ?_
      refine g_end ?_
      refine e_end ?_
      refine renew [(1, (.ref (.bx 1) 0 [] (.agg [(.int .i64 g_1.1), (Enc.enc (g_1.2 : List (Int × Int)))]))), (2, (.sl .nl (Enc.shp Int) 0 [])), (3, (encO (.at 3 []) (.of (out_52 : List Int)))), (4, (.int .i64 code_53)), (5, (Enc.enc (r_105 : List Int))), (6, (Enc.enc (r_106 : List (List Int)))), (7, (.int .i64 0)), (8, (.int .i64 0))] ⟨h1, h2, h3, h4, h5, h6, h7, rfl⟩ ?_
      rintro s ⟨h1, h2, h3, h4, h5, h6, h7, h8⟩
      refine .nsq ?_
      refine .block ?_
      refine .loop ?_
      exact t_f114_l2 H g_1 out_52 code_53 r_105 r_106 (s_l7Depths_l3 F g_1 k) ih F 0 0 _ ⟨h1, h2, h3, h4, h5, h6, h7, h8⟩ h
    · refine .exit ?_
      refine .esq ?_
      refine .elp ?_
      refine .ebk ?_
      refine .nsq ?_
      refine .seq ?_
      refine run_reg ?_
      refine e_end ?_
      refine g_v1 (t := 3) (u := (encO (.at 3 []) (.of (out_52 : List Int)))) (encO (.at 3 []) (.of (out_52 : List Int))) h3 rfl rfl ?_
      refine g_v1 (t := 74) (u := (encO (.at 3 []) (.of (out_52 : List Int)))) (encO (.at 3 []) (.of (out_52 : List Int))) rfl rfl rfl ?_
      refine g_end ?_
      refine e_home (r := 3) (x := 2) (v := (encO (.at 3 []) (.of (out_52 : List Int)))) (by exact rfl) rfl (fun s_13 hg_13 => ?_)
      refine e_end ?_
      refine renew [(2, (encO (.at 2 []) (.of (out_52 : List Int))))] (hg_13 2 (encO (.at 3 []) (.of (out_52 : List Int))) (encO (.at 2 []) (.of (out_52 : List Int))) rfl (map_encO (r := 3) (p := []) rfl rfl)) ?_
      rintro s h2
      refine .nsq ?_
      refine .ret ?_
      have hr := Option.some.inj h
      subst hr
      exact rrA (res_tmp h2) (fin_ret1 (fin_own (o := .of out_52)))
def s_l7Depths (F : Nat) (g_1 : (Int × (List (Int × Int)))) : Option (List Int) :=
  s_l7Depths_l3 F g_1 F [0] 1
theorem t114 (H : H114 D σ F) (g_1 : (Int × (List (Int × Int)))) (s : Nat → V) (hs : Facts [(0, (.agg [(.int .i64 g_1.1), (Enc.enc (g_1.2 : List (Int × Int)))]))] s) (h : s_l7Depths F g_1 = some r) : Run D σ (R114 r) (.run A114 []) s := by
  unfold s_l7Depths at h
  have h0 := hs
  refine .seq ?_
  refine run_reg ?_
  refine e_clr ?_
  refine e_end ?_
  refine g_box (.agg [(.int .i64 g_1.1), (Enc.enc (g_1.2 : List (Int × Int)))]) (rd_of (keep_clear (s := s) (pk := [1]) h0 rfl (map_agg (maps_cons rfl (maps_cons (Enc.map_enc _ (g_1.2 : List (Int × Int))) maps_nil)))) rfl) (gone_clear (s := s) (pk := [1]) (t := 1) rfl) rfl ?_
  refine g_v0 (.sl .nl (Enc.shp Int) 0 []) rfl rfl ?_
  refine g_end ?_
  refine e_end ?_
  refine renew [(1, (.ref (.bx 1) 0 [] (.agg [(.int .i64 g_1.1), (Enc.enc (g_1.2 : List (Int × Int)))]))), (2, (.sl .nl (Enc.shp Int) 0 []))] ⟨rfl, rfl⟩ ?_
  rintro s ⟨h1, h2⟩
  refine .nsq ?_
  refine .seq ?_
  refine run_reg ?_
  refine e_clr ?_
  refine e_end ?_
  refine g_litL [] [Enc.enc (0 : Int)] trivial rfl rfl (gone_clear (s := s) (pk := [10]) (t := 10) rfl) ?_
  refine g_v1 (t := 10) (u := (encO (.at 10 []) (.of ([0] : List Int)))) (encO (.at 10 []) (.of ([0] : List Int))) rfl rfl rfl ?_
  refine g_end ?_
  refine e_home (r := 10) (x := 3) (v := (encO (.at 10 []) (.of ([0] : List Int)))) (by exact rfl) rfl (fun s_3 hg_3 => ?_)
  refine e_end ?_
  refine renew [(1, (.ref (.bx 1) 0 [] (.agg [(.int .i64 g_1.1), (Enc.enc (g_1.2 : List (Int × Int)))]))), (2, (.sl .nl (Enc.shp Int) 0 [])), (3, (encO (.at 3 []) (.of ([0] : List Int))))] ⟨(hg_3 1 (.ref (.bx 1) 0 [] (.agg [(.int .i64 g_1.1), (Enc.enc (g_1.2 : List (Int × Int)))])) (.ref (.bx 1) 0 [] (.agg [(.int .i64 g_1.1), (Enc.enc (g_1.2 : List (Int × Int)))])) (keep_clear (s := s) (pk := [10]) h1 rfl (map_bx rfl (map_agg (maps_cons rfl (maps_cons (Enc.map_enc _ (g_1.2 : List (Int × Int))) maps_nil))))) (map_bx rfl (map_agg (maps_cons rfl (maps_cons (Enc.map_enc _ (g_1.2 : List (Int × Int))) maps_nil))))), (hg_3 2 (.sl .nl (Enc.shp Int) 0 []) (.sl .nl (Enc.shp Int) 0 []) (keep_clear (s := s) (pk := [10]) h2 rfl rfl) rfl), (hg_3 3 (encO (.at 10 []) (.of ([0] : List Int))) (encO (.at 3 []) (.of ([0] : List Int))) rfl (map_encO (r := 10) (p := []) rfl rfl))⟩ ?_
  rintro s ⟨h1, h2, h3⟩
  refine .nsq ?_
  refine .seq ?_
  refine .seq ?_
  refine run_reg ?_
  refine e_end ?_
  refine g_v0 (.int .i64 1) rfl rfl ?_
  refine g_end ?_
  refine e_end ?_
  refine renew [(1, (.ref (.bx 1) 0 [] (.agg [(.int .i64 g_1.1), (Enc.enc (g_1.2 : List (Int × Int)))]))), (2, (.sl .nl (Enc.shp Int) 0 [])), (3, (encO (.at 3 []) (.of ([0] : List Int)))), (4, (.int .i64 1))] ⟨h1, h2, h3, rfl⟩ ?_
  rintro s ⟨h1, h2, h3, h4⟩
  refine .nsq ?_
  refine .block ?_
  refine .loop ?_
  exact t_f114_l3 H g_1 F [0] 1 _ ⟨h1, h2, h3, h4⟩ h
end
def e114 (F : Nat) : Ent := ⟨114, dn1 (s_l7Depths F) (fun (r : (List Int)) => (Enc.enc (r : (List Int)))), 0, true⟩
theorem o114 {D : Den} {σ : Sig} {F : Nat} (hF : Fits2 Try.prog D σ) (H : H114 D σ F) : (e114 F).Ok Try.prog := by
  refine ⟨fun args r h => ?_, ⟨Try.f114, Try.func114, rfl, rfl⟩⟩
  obtain ⟨x0, y, rfl, hy, rfl⟩ := dn1_open h
  exact contract_run hF (by kernel_rfl) Try.func114 rfl c114 (show 1 ≤ Try.f114.ntmps by decide) (t114 H x0 _ rfl hy)
/- loop.example/g01109/spec.l7Depth -/
def A69_2 : AC := (AC.seq (AC.reg [] [(I.mk (some 6) none false (X.v (A.mov (O.t 3)))), (I.mk (some 7) none false (X.v (A.mov (O.t 3)))), (I.mk (some 8) none false (X.v (A.len (O.t 7)))), (I.mk (some 9) none false (X.v (A.bin BinOp.sub (O.t 8) (O.k (V.int IntKind.i64 (Int.ofNat 1)))))), (I.mk (some 10) none false (X.v (A.idx (O.t 6) (O.t 9) 1))), (I.mk (some 11) none false (X.v (A.load Sh.s (O.t 10)))), (I.mk (some 2) none false (X.v (A.mov (O.t 11))))] []) AC.ret)
def A69_1 : AC := (AC.seq (AC.reg [] [(I.mk (some 4) none false (X.v (A.load (Sh.ag [Sh.s, Sh.p]) (O.t 1)))), (I.mk (some 5) none false (X.call (O.k (V.fn 114 [] [])) [(O.t 4)])), (I.mk (some 3) none false (X.v (A.mov (O.t 5))))] []) A69_2)
def A69 : AC := (AC.seq (AC.reg [.clr [1]] [(I.mk (some 1) none false (X.box (O.t 0))), (I.mk (some 2) none false (X.v (A.mov (O.k (V.int IntKind.i64 (Int.ofNat 0))))))] []) A69_1)
def an69 : List An := [{ id := 0, pre := [.clr [1]], ep := [], lin := [], sp := [] }]
theorem c69 : cC Try.prog Try.f69.ntmps an69 (Try.f69.body.getD .skip) = some A69 := by kernel_rfl
structure H69 (D : Den) (σ : Sig) (F : Nat) : Prop where
  c114 : ∀ x0 r, s_l7Depths F x0 = some r → D 114 [Enc.enc x0] = some (Enc.enc (r : (List Int)))
  g114 : σ 114 = some (0, true)
abbrev R69 (r : Int) : (Nat → V) → Prop := RR Try.prog [.tmp 2] 0 false (Enc.enc (r : Int))
section
variable {D : Den} {σ : Sig} {F : Nat} {r : Int}
def s_l7Depth (F : Nat) (g_1 : (Int × (List (Int × Int)))) : Option Int :=
  (s_l7Depths F g_1).bind fun r_2 =>
  (idx r_2 (w64 ((r_2.length : Int) - 1))).bind fun e_3 =>
  some e_3
theorem t69 (H : H69 D σ F) (g_1 : (Int × (List (Int × Int)))) (s : Nat → V) (hs : Facts [(0, (.agg [(.int .i64 g_1.1), (Enc.enc (g_1.2 : List (Int × Int)))]))] s) (h : s_l7Depth F g_1 = some r) : Run D σ (R69 r) (.run A69 []) s := by
  unfold s_l7Depth at h
  have h0 := hs
  refine .seq ?_
  refine run_reg ?_
  refine e_clr ?_
  refine e_end ?_
  refine g_box (.agg [(.int .i64 g_1.1), (Enc.enc (g_1.2 : List (Int × Int)))]) (rd_of (keep_clear (s := s) (pk := [1]) h0 rfl (map_agg (maps_cons rfl (maps_cons (Enc.map_enc _ (g_1.2 : List (Int × Int))) maps_nil)))) rfl) (gone_clear (s := s) (pk := [1]) (t := 1) rfl) rfl ?_
  refine g_v0 (.int .i64 0) rfl rfl ?_
  refine g_end ?_
  refine e_end ?_
  refine renew [(1, (.ref (.bx 1) 0 [] (.agg [(.int .i64 g_1.1), (Enc.enc (g_1.2 : List (Int × Int)))]))), (2, (.int .i64 0))] ⟨rfl, rfl⟩ ?_
  rintro s ⟨h1, h2⟩
  refine .nsq ?_
  refine .seq ?_
  refine run_reg ?_
  refine e_end ?_
  refine g_v1 (t := 1) (u := (.ref (.bx 1) 0 [] (.agg [(.int .i64 g_1.1), (Enc.enc (g_1.2 : List (Int × Int)))]))) (.agg [(.int .i64 g_1.1), (Enc.enc (g_1.2 : List (Int × Int)))]) h1 rfl rfl ?_
  obtain ⟨r_2, E_r_2, h⟩ := bind_some h
  refine g_call (m := 0) (al := true) (r := (Enc.enc (r_2 : (List Int)))) [Enc.enc (g_1 : (Int × (List (Int × Int))))] (ta_cons (v := (.agg [(.int .i64 g_1.1), (Enc.enc (g_1.2 : List (Int × Int)))])) rfl rfl (Enc.erase_enc (g_1 : (Int × (List (Int × Int))))) ta_nil) (H.c114 _ _ E_r_2) H.g114 (hal_of (ht_cons (v := (.agg [(.int .i64 g_1.1), (Enc.enc (g_1.2 : List (Int × Int)))])) rfl rfl rfl ht_nil)) rfl rfl rfl ?_
  refine g_v1 (t := 5) (u := (Enc.enc (r_2 : List Int))) (Enc.enc (r_2 : List Int)) rfl rfl rfl ?_
  refine g_end ?_
  refine e_end ?_
  refine renew [(2, (.int .i64 0)), (3, (Enc.enc (r_2 : List Int)))] ⟨h2, rfl⟩ ?_
  rintro s ⟨h2, h3⟩
  refine .nsq ?_
  refine .seq ?_
  refine run_reg ?_
  refine e_end ?_
  refine g_v1 (t := 3) (u := (Enc.enc (r_2 : List Int))) (Enc.enc (r_2 : List Int)) h3 rfl rfl ?_
  refine g_v1 (t := 3) (u := (Enc.enc (r_2 : List Int))) (Enc.enc (r_2 : List Int)) h3 rfl rfl ?_
  refine g_v (.int .i64 (r_2.length : Int)) (ev_len (xs := r_2) rfl) ?_
  refine g_v1 (t := 8) (u := (.int .i64 (r_2.length : Int))) (.int .i64 (w64 ((r_2.length : Int) - 1))) rfl rfl rfl ?_
  obtain ⟨e_3, E_e_3, h⟩ := bind_some h
  refine g_v (.ref .sh 0 [] (.int .i64 e_3)) (ev_idx (t := .sh) (lo := 0) (xs := r_2) rfl rfl E_e_3 rfl rfl) ?_
  refine g_v1 (t := 10) (u := (.ref .sh 0 [] (.int .i64 e_3))) (.int .i64 e_3) rfl rfl rfl ?_
  refine g_v1 (t := 11) (u := (.int .i64 e_3)) (.int .i64 e_3) rfl rfl rfl ?_
  refine g_end ?_
  refine e_end ?_
  refine renew [(2, (.int .i64 e_3))] rfl ?_
  rintro s h2
  refine .nsq ?_
  refine .ret ?_
  have hr := Option.some.inj h
  subst hr
  exact rrA (res_tmp h2) rfl
end
def e69 (F : Nat) : Ent := ⟨69, dn1 (s_l7Depth F) (fun (r : Int) => (Enc.enc (r : Int))), 0, false⟩
theorem o69 {D : Den} {σ : Sig} {F : Nat} (hF : Fits2 Try.prog D σ) (H : H69 D σ F) : (e69 F).Ok Try.prog := by
  refine ⟨fun args r h => ?_, ⟨Try.f69, Try.func69, rfl, rfl⟩⟩
  obtain ⟨x0, y, rfl, hy, rfl⟩ := dn1_open h
  exact contract_run hF (by kernel_rfl) Try.func69 rfl c69 (show 1 ≤ Try.f69.ntmps by decide) (t69 H x0 _ rfl hy)
/- loop.example/g01109/spec.TreedepthOf -/
def A28_2 : AC := (AC.cond (O.t 6) (AC.seq (AC.reg [] [(I.mk (some 2) none false (X.v (A.mov (O.k (V.int IntKind.i64 (Int.ofNat 0)))))), (I.mk (some 3) none false (X.v (A.mov (O.k (V.bool false)))))] []) AC.ret) AC.skip)
def A28_3 : AC := (AC.seq (AC.reg [] [(I.mk (some 7) none false (X.v (A.load (Sh.ag [Sh.s, Sh.p]) (O.t 1)))), (I.mk (some 8) none false (X.call (O.k (V.fn 69 [] [])) [(O.t 7)])), (I.mk (some 2) none false (X.v (A.mov (O.t 8)))), (I.mk (some 3) none false (X.v (A.mov (O.k (V.bool true)))))] []) AC.ret)
def A28_1 : AC := (AC.seq (AC.seq (AC.reg [] [(I.mk (some 4) none false (X.v (A.load (Sh.ag [Sh.s, Sh.p]) (O.t 1)))), (I.mk (some 5) none false (X.call (O.k (V.fn 45 [] [])) [(O.t 4)])), (I.mk (some 6) none false (X.v (A.un UnOp.not (O.t 5))))] []) A28_2) A28_3)
def A28 : AC := (AC.seq (AC.reg [.clr [1]] [(I.mk (some 1) none false (X.box (O.t 0))), (I.mk (some 2) none false (X.v (A.mov (O.k (V.int IntKind.i64 (Int.ofNat 0)))))), (I.mk (some 3) none false (X.v (A.mov (O.k (V.bool false)))))] []) A28_1)
def an28 : List An := [{ id := 0, pre := [.clr [1]], ep := [], lin := [], sp := [] }]
theorem c28 : cC Try.prog Try.f28.ntmps an28 (Try.f28.body.getD .skip) = some A28 := by kernel_rfl
structure H28 (D : Den) (σ : Sig) (F : Nat) : Prop where
  c45 : ∀ x0 r, s_l2Good F x0 = some r → D 45 [Enc.enc x0] = some (Enc.enc (r : Bool))
  g45 : σ 45 = some (0, false)
  c69 : ∀ x0 r, s_l7Depth F x0 = some r → D 69 [Enc.enc x0] = some (Enc.enc (r : Int))
  g69 : σ 69 = some (0, false)
abbrev R28 (r : (Int × Bool)) : (Nat → V) → Prop := RR Try.prog [.tmp 2, .tmp 3] 0 false (.tup [Enc.enc (r.1 : Int), Enc.enc (r.2 : Bool)])
section
variable {D : Den} {σ : Sig} {F : Nat} {r : (Int × Bool)}
def s_TreedepthOf (F : Nat) (g_1 : (Int × (List (Int × Int)))) : Option (Int × Bool) :=
  (s_l2Good F g_1).bind fun r_2 =>
  bif (!r_2) then
    some (0, false)
  else
    (s_l7Depth F g_1).bind fun r_3 =>
    some (r_3, true)
theorem t28 (H : H28 D σ F) (g_1 : (Int × (List (Int × Int)))) (s : Nat → V) (hs : Facts [(0, (.agg [(.int .i64 g_1.1), (Enc.enc (g_1.2 : List (Int × Int)))]))] s) (h : s_TreedepthOf F g_1 = some r) : Run D σ (R28 r) (.run A28 []) s := by
  unfold s_TreedepthOf at h
  have h0 := hs
  refine .seq ?_
  refine run_reg ?_
  refine e_clr ?_
  refine e_end ?_
  refine g_box (.agg [(.int .i64 g_1.1), (Enc.enc (g_1.2 : List (Int × Int)))]) (rd_of (keep_clear (s := s) (pk := [1]) h0 rfl (map_agg (maps_cons rfl (maps_cons (Enc.map_enc _ (g_1.2 : List (Int × Int))) maps_nil)))) rfl) (gone_clear (s := s) (pk := [1]) (t := 1) rfl) rfl ?_
  refine g_v0 (.int .i64 0) rfl rfl ?_
  refine g_v0 (.bool false) rfl rfl ?_
  refine g_end ?_
  refine e_end ?_
  refine renew [(1, (.ref (.bx 1) 0 [] (.agg [(.int .i64 g_1.1), (Enc.enc (g_1.2 : List (Int × Int)))]))), (2, (.int .i64 0)), (3, (.bool false))] ⟨rfl, rfl, rfl⟩ ?_
  rintro s ⟨h1, h2, h3⟩
  refine .nsq ?_
  refine .seq ?_
  refine .seq ?_
  refine run_reg ?_
  refine e_end ?_
  refine g_v1 (t := 1) (u := (.ref (.bx 1) 0 [] (.agg [(.int .i64 g_1.1), (Enc.enc (g_1.2 : List (Int × Int)))]))) (.agg [(.int .i64 g_1.1), (Enc.enc (g_1.2 : List (Int × Int)))]) h1 rfl rfl ?_
  obtain ⟨r_2, E_r_2, h⟩ := bind_some h
  refine g_call (m := 0) (al := false) (r := (Enc.enc (r_2 : Bool))) [Enc.enc (g_1 : (Int × (List (Int × Int))))] (ta_cons (v := (.agg [(.int .i64 g_1.1), (Enc.enc (g_1.2 : List (Int × Int)))])) rfl rfl (Enc.erase_enc (g_1 : (Int × (List (Int × Int))))) ta_nil) (H.c45 _ _ E_r_2) H.g45 rfl rfl rfl rfl ?_
  refine g_v1 (t := 5) (u := (.bool r_2)) (.bool (!r_2)) rfl rfl rfl ?_
  refine g_end ?_
  refine e_end ?_
  refine renew [(1, (.ref (.bx 1) 0 [] (.agg [(.int .i64 g_1.1), (Enc.enc (g_1.2 : List (Int × Int)))]))), (2, (.int .i64 0)), (3, (.bool false)), (6, (.bool (!r_2)))] ⟨h1, h2, h3, rfl⟩ ?_
  rintro s ⟨h1, h2, h3, h6⟩
  refine .nsq ?_
  refine run_cond (t := (!r_2)) h6 h (fun h => ?_) (fun h => ?_)
  · refine .seq ?_
    refine run_reg ?_
    refine e_end ?_
    refine g_v0 (.int .i64 0) rfl rfl ?_
    refine g_v0 (.bool false) rfl rfl ?_
    refine g_end ?_
    refine e_end ?_
    refine renew [(1, (.ref (.bx 1) 0 [] (.agg [(.int .i64 g_1.1), (Enc.enc (g_1.2 : List (Int × Int)))]))), (2, (.int .i64 0)), (3, (.bool false))] ⟨h1, rfl, rfl⟩ ?_
    rintro s ⟨h1, h2, h3⟩
    refine .nsq ?_
    refine .ret ?_
    have hr := Option.some.inj h
    subst hr
    exact rrB (res_tmp h2) (res_tmp h3) rfl
  · refine .skip ?_
    refine .nsq ?_
    refine .seq ?_
    refine run_reg ?_
    refine e_end ?_
    refine g_v1 (t := 1) (u := (.ref (.bx 1) 0 [] (.agg [(.int .i64 g_1.1), (Enc.enc (g_1.2 : List (Int × Int)))]))) (.agg [(.int .i64 g_1.1), (Enc.enc (g_1.2 : List (Int × Int)))]) h1 rfl rfl ?_
    obtain ⟨r_3, E_r_3, h⟩ := bind_some h
    refine g_call (m := 0) (al := false) (r := (Enc.enc (r_3 : Int))) [Enc.enc (g_1 : (Int × (List (Int × Int))))] (ta_cons (v := (.agg [(.int .i64 g_1.1), (Enc.enc (g_1.2 : List (Int × Int)))])) rfl rfl (Enc.erase_enc (g_1 : (Int × (List (Int × Int))))) ta_nil) (H.c69 _ _ E_r_3) H.g69 rfl rfl rfl rfl ?_
    refine g_v1 (t := 8) (u := (.int .i64 r_3)) (.int .i64 r_3) rfl rfl rfl ?_
    refine g_v0 (.bool true) rfl rfl ?_
    refine g_end ?_
    refine e_end ?_
    refine renew [(2, (.int .i64 r_3)), (3, (.bool true))] ⟨rfl, rfl⟩ ?_
    rintro s ⟨h2, h3⟩
    refine .nsq ?_
    refine .ret ?_
    have hr := Option.some.inj h
    subst hr
    exact rrB (res_tmp h2) (res_tmp h3) rfl
end
def e28 (F : Nat) : Ent := ⟨28, dn1 (s_TreedepthOf F) (fun (r : (Int × Bool)) => (.tup [Enc.enc (r.1 : Int), Enc.enc (r.2 : Bool)])), 0, false⟩
theorem o28 {D : Den} {σ : Sig} {F : Nat} (hF : Fits2 Try.prog D σ) (H : H28 D σ F) : (e28 F).Ok Try.prog := by
  refine ⟨fun args r h => ?_, ⟨Try.f28, Try.func28, rfl, rfl⟩⟩
  obtain ⟨x0, y, rfl, hy, rfl⟩ := dn1_open h
  exact contract_run hF (by kernel_rfl) Try.func28 rfl c28 (show 1 ≤ Try.f28.ntmps by decide) (t28 H x0 _ rfl hy)
/- loop.example/g01109/impl.within -/
def A66_1 : AC := (AC.seq (AC.reg [] [(I.mk (some 7) none false (X.v (A.mov (O.t 0)))), (I.mk (some 8) none false (X.v (A.mov (O.t 1)))), (I.mk (some 9) none false (X.v (A.bin BinOp.geq (O.t 7) (O.t 8)))), (I.mk (some 10) none false (X.v (A.mov (O.t 9)))), (I.mk (some 11) (some (10, true)) false (X.v (A.mov (O.t 0)))), (I.mk (some 12) (some (10, true)) false (X.v (A.mov (O.t 2)))), (I.mk (some 13) (some (10, true)) false (X.v (A.bin BinOp.leq (O.t 11) (O.t 12)))), (I.mk (some 14) none false (X.v (A.pick (O.t 10) (O.t 13) (O.k (V.bool false))))), (I.mk (some 6) none false (X.v (A.mov (O.t 14))))] []) AC.ret)
def A66 : AC := (AC.seq (AC.reg [] [(I.mk (some 6) none false (X.v (A.mov (O.k (V.bool false)))))] []) A66_1)
def an66 : List An := []
theorem c66 : cC Try.prog Try.f66.ntmps an66 (Try.f66.body.getD .skip) = some A66 := by kernel_rfl
structure H66 (D : Den) (σ : Sig) (F : Nat) : Prop where
  mk ::
abbrev R66 (r : Bool) : (Nat → V) → Prop := RR Try.prog [.tmp 6] 0 false (Enc.enc (r : Bool))
section
variable {D : Den} {σ : Sig} {F : Nat} {r : Bool}
def i_within (F : Nat) (n_1 : Int) (low_2 : Int) (high_3 : Int) : Option Bool :=
  bif decide (n_1 ≥ low_2) then
    some (decide (n_1 ≤ high_3))
  else
    some false
theorem t66 (H : H66 D σ F) (n_1 : Int) (low_2 : Int) (high_3 : Int) (s : Nat → V) (hs : Facts [(0, (.int .i64 n_1)), (1, (.int .i64 low_2)), (2, (.int .i64 high_3))] s) (h : i_within F n_1 low_2 high_3 = some r) : Run D σ (R66 r) (.run A66 []) s := by
  unfold i_within at h
  obtain ⟨h0, h1, h2⟩ := hs
  refine .seq ?_
  refine run_reg ?_
  refine e_end ?_
  refine g_v0 (.bool false) rfl rfl ?_
  refine g_end ?_
  refine e_end ?_
  refine renew [(0, (.int .i64 n_1)), (1, (.int .i64 low_2)), (2, (.int .i64 high_3)), (6, (.bool false))] ⟨h0, h1, h2, rfl⟩ ?_
  rintro s ⟨h0, h1, h2, h6⟩
  refine .nsq ?_
  refine .seq ?_
  refine run_reg ?_
  refine e_end ?_
  refine g_v1 (t := 0) (u := (.int .i64 n_1)) (.int .i64 n_1) h0 rfl rfl ?_
  refine g_v1 (t := 1) (u := (.int .i64 low_2)) (.int .i64 low_2) h1 rfl rfl ?_
  refine g_v2 (t1 := 7) (t2 := 8) (u1 := (.int .i64 n_1)) (u2 := (.int .i64 low_2)) (.bool (decide (n_1 ≥ low_2))) rfl rfl rfl rfl ?_
  refine g_v1 (t := 9) (u := (.bool (decide (n_1 ≥ low_2)))) (.bool (decide (n_1 ≥ low_2))) rfl rfl rfl ?_
  refine split_on (c := decide (n_1 ≥ low_2)) h (fun hg4 h => ?_) (fun hg4 h => ?_)
  · refine g_yes (Eq.trans (b := .bool (decide (n_1 ≥ low_2))) rfl (congrArg V.bool hg4)) (g_v1 (t := 0) (u := (.int .i64 n_1)) (.int .i64 n_1) h0 rfl rfl ?_)
    refine g_yes (Eq.trans (b := .bool (decide (n_1 ≥ low_2))) rfl (congrArg V.bool hg4)) (g_v1 (t := 2) (u := (.int .i64 high_3)) (.int .i64 high_3) h2 rfl rfl ?_)
    refine g_yes (Eq.trans (b := .bool (decide (n_1 ≥ low_2))) rfl (congrArg V.bool hg4)) (g_v2 (t1 := 11) (t2 := 12) (u1 := (.int .i64 n_1)) (u2 := (.int .i64 high_3)) (.bool (decide (n_1 ≤ high_3))) rfl rfl rfl rfl ?_)
    refine g_v2 (t1 := 10) (t2 := 13) (u1 := (.bool true)) (u2 := (.bool (decide (n_1 ≤ high_3)))) (.bool (decide (n_1 ≤ high_3))) (Eq.trans (b := .bool (decide (n_1 ≥ low_2))) rfl (congrArg V.bool hg4)) rfl rfl rfl ?_
    refine g_v1 (t := 14) (u := (.bool (decide (n_1 ≤ high_3)))) (.bool (decide (n_1 ≤ high_3))) rfl rfl rfl ?_
    refine g_end ?_
    refine e_end ?_
    refine renew [(6, (.bool (decide (n_1 ≤ high_3))))] rfl ?_
    rintro s h6
    refine .nsq ?_
    refine .ret ?_
    have hr := Option.some.inj h
    subst hr
    exact rrA (res_tmp h6) rfl
  · refine g_no (Eq.trans (b := .bool (decide (n_1 ≥ low_2))) rfl (congrArg V.bool hg4)) ?_
    refine g_no (Eq.trans (b := .bool (decide (n_1 ≥ low_2))) rfl (congrArg V.bool hg4)) ?_
    refine g_no (Eq.trans (b := .bool (decide (n_1 ≥ low_2))) rfl (congrArg V.bool hg4)) ?_
    refine g_v2 (t1 := 10) (t2 := 13) (u1 := (.bool false)) (u2 := (.tup [])) (.bool false) (Eq.trans (b := .bool (decide (n_1 ≥ low_2))) rfl (congrArg V.bool hg4)) rfl rfl rfl ?_
    refine g_v1 (t := 14) (u := (.bool false)) (.bool false) rfl rfl rfl ?_
    refine g_end ?_
    refine e_end ?_
    refine renew [(6, (.bool false))] rfl ?_
    rintro s h6
    refine .nsq ?_
    refine .ret ?_
    have hr := Option.some.inj h
    subst hr
    exact rrA (res_tmp h6) rfl
end
def e66 (F : Nat) : Ent := ⟨66, dn3 (i_within F) (fun (r : Bool) => (Enc.enc (r : Bool))), 0, false⟩
theorem o66 {D : Den} {σ : Sig} {F : Nat} (hF : Fits2 Try.prog D σ) (H : H66 D σ F) : (e66 F).Ok Try.prog := by
  refine ⟨fun args r h => ?_, ⟨Try.f66, Try.func66, rfl, rfl⟩⟩
  obtain ⟨x0, x1, x2, y, rfl, hy, rfl⟩ := dn3_open h
  exact contract_run hF (by kernel_rfl) Try.func66 rfl c66 (show 3 ≤ Try.f66.ntmps by decide) (t66 H x0 x1 x2 _ ⟨rfl, rfl, rfl⟩ hy)
/- cmp.isNaN[int] -/
def A141_1 : AC := (AC.seq (AC.reg [] [(I.mk (some 3) none false (X.v (A.mov (O.t 0)))), (I.mk (some 4) none false (X.v (A.mov (O.t 0)))), (I.mk (some 5) none false (X.v (A.bin BinOp.neq (O.t 3) (O.t 4)))), (I.mk (some 2) none false (X.v (A.mov (O.t 5))))] []) AC.ret)
def A141 : AC := (AC.seq (AC.reg [] [(I.mk (some 2) none false (X.v (A.mov (O.k (V.bool false)))))] []) A141_1)
def an141 : List An := []
theorem c141 : cC Try.prog Try.f141.ntmps an141 (Try.f141.body.getD .skip) = some A141 := by kernel_rfl
structure H141 (D : Den) (σ : Sig) (F : Nat) : Prop where
  mk ::
abbrev R141 (r : Bool) : (Nat → V) → Prop := RR Try.prog [.tmp 2] 0 false (Enc.enc (r : Bool))
section
variable {D : Den} {σ : Sig} {F : Nat} {r : Bool}
def cmp_isNaN_int (F : Nat) (x_1 : Int) : Option Bool :=
  some (x_1 != x_1)
theorem t141 (H : H141 D σ F) (x_1 : Int) (s : Nat → V) (hs : Facts [(0, (.int .i64 x_1))] s) (h : cmp_isNaN_int F x_1 = some r) : Run D σ (R141 r) (.run A141 []) s := by
  unfold cmp_isNaN_int at h
  have h0 := hs
  refine .seq ?_
  refine run_reg ?_
  refine e_end ?_
  refine g_v0 (.bool false) rfl rfl ?_
  refine g_end ?_
  refine e_end ?_
  refine renew [(0, (.int .i64 x_1)), (2, (.bool false))] ⟨h0, rfl⟩ ?_
  rintro s ⟨h0, h2⟩
  refine .nsq ?_
  refine .seq ?_
  refine run_reg ?_
  refine e_end ?_
  refine g_v1 (t := 0) (u := (.int .i64 x_1)) (.int .i64 x_1) h0 rfl rfl ?_
  refine g_v1 (t := 0) (u := (.int .i64 x_1)) (.int .i64 x_1) h0 rfl rfl ?_
  refine g_v2 (t1 := 3) (t2 := 4) (u1 := (.int .i64 x_1)) (u2 := (.int .i64 x_1)) (.bool (x_1 != x_1)) rfl rfl rfl rfl ?_
  refine g_v1 (t := 5) (u := (.bool (x_1 != x_1))) (.bool (x_1 != x_1)) rfl rfl rfl ?_
  refine g_end ?_
  refine e_end ?_
  refine renew [(2, (.bool (x_1 != x_1)))] rfl ?_
  rintro s h2
  refine .nsq ?_
  refine .ret ?_
  have hr := Option.some.inj h
  subst hr
  exact rrA (res_tmp h2) rfl
end
def e141 (F : Nat) : Ent := ⟨141, dn1 (cmp_isNaN_int F) (fun (r : Bool) => (Enc.enc (r : Bool))), 0, false⟩
theorem o141 {D : Den} {σ : Sig} {F : Nat} (hF : Fits2 Try.prog D σ) (H : H141 D σ F) : (e141 F).Ok Try.prog := by
  refine ⟨fun args r h => ?_, ⟨Try.f141, Try.func141, rfl, rfl⟩⟩
  obtain ⟨x0, y, rfl, hy, rfl⟩ := dn1_open h
  exact contract_run hF (by kernel_rfl) Try.func141 rfl c141 (show 1 ≤ Try.f141.ntmps by decide) (t141 H x0 _ rfl hy)
/- cmp.Compare[int] -/
def A131_5 : AC := (AC.cond (O.t 12) (AC.seq (AC.reg [] [(I.mk (some 4) none false (X.v (A.mov (O.k (V.int IntKind.i64 (Int.ofNat 0))))))] []) AC.ret) AC.skip)
def A131_6 : AC := (AC.seq (AC.reg [] [(I.mk (some 4) none false (X.v (A.mov (O.k (V.int IntKind.i64 (Int.negSucc 0))))))] []) AC.ret)
def A131_4 : AC := (AC.cond (O.t 11) (AC.seq (AC.seq (AC.reg [] [(I.mk (some 12) none false (X.v (A.mov (O.t 6))))] []) A131_5) A131_6) AC.skip)
def A131_8 : AC := (AC.cond (O.t 13) (AC.seq (AC.reg [] [(I.mk (some 4) none false (X.v (A.mov (O.k (V.int IntKind.i64 (Int.ofNat 1))))))] []) AC.ret) AC.skip)
def A131_10 : AC := (AC.cond (O.t 16) (AC.seq (AC.reg [] [(I.mk (some 4) none false (X.v (A.mov (O.k (V.int IntKind.i64 (Int.negSucc 0))))))] []) AC.ret) AC.skip)
def A131_12 : AC := (AC.cond (O.t 19) (AC.seq (AC.reg [] [(I.mk (some 4) none false (X.v (A.mov (O.k (V.int IntKind.i64 (Int.ofNat 1))))))] []) AC.ret) AC.skip)
def A131_13 : AC := (AC.seq (AC.reg [] [(I.mk (some 4) none false (X.v (A.mov (O.k (V.int IntKind.i64 (Int.ofNat 0))))))] []) AC.ret)
def A131_11 : AC := (AC.seq (AC.seq (AC.reg [] [(I.mk (some 17) none false (X.v (A.mov (O.t 0)))), (I.mk (some 18) none false (X.v (A.mov (O.t 1)))), (I.mk (some 19) none false (X.v (A.bin BinOp.gtr (O.t 17) (O.t 18))))] []) A131_12) A131_13)
def A131_9 : AC := (AC.seq (AC.seq (AC.reg [] [(I.mk (some 14) none false (X.v (A.mov (O.t 0)))), (I.mk (some 15) none false (X.v (A.mov (O.t 1)))), (I.mk (some 16) none false (X.v (A.bin BinOp.lss (O.t 14) (O.t 15))))] []) A131_10) A131_11)
def A131_7 : AC := (AC.seq (AC.seq (AC.reg [] [(I.mk (some 13) none false (X.v (A.mov (O.t 6))))] []) A131_8) A131_9)
def A131_3 : AC := (AC.seq (AC.seq (AC.reg [] [(I.mk (some 11) none false (X.v (A.mov (O.t 5))))] []) A131_4) A131_7)
def A131_2 : AC := (AC.seq (AC.reg [] [(I.mk (some 9) none false (X.v (A.mov (O.t 1)))), (I.mk (some 10) none false (X.call (O.k (V.fn 141 [] [])) [(O.t 9)])), (I.mk (some 6) none false (X.v (A.mov (O.t 10))))] []) A131_3)
def A131_1 : AC := (AC.seq (AC.reg [] [(I.mk (some 7) none false (X.v (A.mov (O.t 0)))), (I.mk (some 8) none false (X.call (O.k (V.fn 141 [] [])) [(O.t 7)])), (I.mk (some 5) none false (X.v (A.mov (O.t 8))))] []) A131_2)
def A131 : AC := (AC.seq (AC.reg [] [(I.mk (some 4) none false (X.v (A.mov (O.k (V.int IntKind.i64 (Int.ofNat 0))))))] []) A131_1)
def an131 : List An := []
theorem c131 : cC Try.prog Try.f131.ntmps an131 (Try.f131.body.getD .skip) = some A131 := by kernel_rfl
structure H131 (D : Den) (σ : Sig) (F : Nat) : Prop where
  c141 : ∀ x0 r, cmp_isNaN_int F x0 = some r → D 141 [Enc.enc x0] = some (Enc.enc (r : Bool))
  g141 : σ 141 = some (0, false)
abbrev R131 (r : Int) : (Nat → V) → Prop := RR Try.prog [.tmp 4] 0 false (Enc.enc (r : Int))
section
variable {D : Den} {σ : Sig} {F : Nat} {r : Int}
def cmp_Compare_int (F : Nat) (x_1 : Int) (y_2 : Int) : Option Int :=
  (cmp_isNaN_int F x_1).bind fun r_3 =>
  (cmp_isNaN_int F y_2).bind fun r_4 =>
  bif r_3 then
    bif r_4 then
      some 0
    else
      some (-1)
  else
    bif r_4 then
      some 1
    else
      bif decide (x_1 < y_2) then
        some (-1)
      else
        bif decide (x_1 > y_2) then
          some 1
        else
          some 0
theorem t131 (H : H131 D σ F) (x_1 : Int) (y_2 : Int) (s : Nat → V) (hs : Facts [(0, (.int .i64 x_1)), (1, (.int .i64 y_2))] s) (h : cmp_Compare_int F x_1 y_2 = some r) : Run D σ (R131 r) (.run A131 []) s := by
  unfold cmp_Compare_int at h
  obtain ⟨h0, h1⟩ := hs
  refine .seq ?_
  refine run_reg ?_
  refine e_end ?_
  refine g_v0 (.int .i64 0) rfl rfl ?_
  refine g_end ?_
  refine e_end ?_
  refine renew [(0, (.int .i64 x_1)), (1, (.int .i64 y_2)), (4, (.int .i64 0))] ⟨h0, h1, rfl⟩ ?_
  rintro s ⟨h0, h1, h4⟩
  refine .nsq ?_
  refine .seq ?_
  refine run_reg ?_
  refine e_end ?_
  refine g_v1 (t := 0) (u := (.int .i64 x_1)) (.int .i64 x_1) h0 rfl rfl ?_
  obtain ⟨r_3, E_r_3, h⟩ := bind_some h
  refine g_call (m := 0) (al := false) (r := (Enc.enc (r_3 : Bool))) [Enc.enc (x_1 : Int)] (ta_cons (v := (.int .i64 x_1)) rfl rfl rfl ta_nil) (H.c141 _ _ E_r_3) H.g141 rfl rfl rfl rfl ?_
  refine g_v1 (t := 8) (u := (.bool r_3)) (.bool r_3) rfl rfl rfl ?_
  refine g_end ?_
  refine e_end ?_
  refine renew [(0, (.int .i64 x_1)), (1, (.int .i64 y_2)), (4, (.int .i64 0)), (5, (.bool r_3))] ⟨h0, h1, h4, rfl⟩ ?_
  rintro s ⟨h0, h1, h4, h5⟩
  refine .nsq ?_
  refine .seq ?_
  refine run_reg ?_
  refine e_end ?_
  refine g_v1 (t := 1) (u := (.int .i64 y_2)) (.int .i64 y_2) h1 rfl rfl ?_
  obtain ⟨r_4, E_r_4, h⟩ := bind_some h
  refine g_call (m := 0) (al := false) (r := (Enc.enc (r_4 : Bool))) [Enc.enc (y_2 : Int)] (ta_cons (v := (.int .i64 y_2)) rfl rfl rfl ta_nil) (H.c141 _ _ E_r_4) H.g141 rfl rfl rfl rfl ?_
  refine g_v1 (t := 10) (u := (.bool r_4)) (.bool r_4) rfl rfl rfl ?_
  refine g_end ?_
  refine e_end ?_
  refine renew [(0, (.int .i64 x_1)), (1, (.int .i64 y_2)), (4, (.int .i64 0)), (5, (.bool r_3)), (6, (.bool r_4))] ⟨h0, h1, h4, h5, rfl⟩ ?_
  rintro s ⟨h0, h1, h4, h5, h6⟩
  refine .nsq ?_
  refine .seq ?_
  refine .seq ?_
  refine run_reg ?_
  refine e_end ?_
  refine g_v1 (t := 5) (u := (.bool r_3)) (.bool r_3) h5 rfl rfl ?_
  refine g_end ?_
  refine e_end ?_
  refine renew [(0, (.int .i64 x_1)), (1, (.int .i64 y_2)), (4, (.int .i64 0)), (6, (.bool r_4)), (11, (.bool r_3))] ⟨h0, h1, h4, h6, rfl⟩ ?_
  rintro s ⟨h0, h1, h4, h6, h11⟩
  refine .nsq ?_
  refine run_cond (t := r_3) h11 h (fun h => ?_) (fun h => ?_)
  · refine .seq ?_
    refine .seq ?_
    refine run_reg ?_
    refine e_end ?_
    refine g_v1 (t := 6) (u := (.bool r_4)) (.bool r_4) h6 rfl rfl ?_
    refine g_end ?_
    refine e_end ?_
    refine renew [(0, (.int .i64 x_1)), (1, (.int .i64 y_2)), (4, (.int .i64 0)), (6, (.bool r_4)), (12, (.bool r_4))] ⟨h0, h1, h4, h6, rfl⟩ ?_
    rintro s ⟨h0, h1, h4, h6, h12⟩
    refine .nsq ?_
    refine run_cond (t := r_4) h12 h (fun h => ?_) (fun h => ?_)
    · refine .seq ?_
      refine run_reg ?_
      refine e_end ?_
      refine g_v0 (.int .i64 0) rfl rfl ?_
      refine g_end ?_
      refine e_end ?_
      refine renew [(0, (.int .i64 x_1)), (1, (.int .i64 y_2)), (4, (.int .i64 0)), (6, (.bool r_4))] ⟨h0, h1, rfl, h6⟩ ?_
      rintro s ⟨h0, h1, h4, h6⟩
      refine .nsq ?_
      refine .ret ?_
      have hr := Option.some.inj h
      subst hr
      exact rrA (res_tmp h4) rfl
    · refine .skip ?_
      refine .nsq ?_
      refine .seq ?_
      refine run_reg ?_
      refine e_end ?_
      refine g_v0 (.int .i64 (-1)) rfl rfl ?_
      refine g_end ?_
      refine e_end ?_
      refine renew [(0, (.int .i64 x_1)), (1, (.int .i64 y_2)), (4, (.int .i64 (-1))), (6, (.bool r_4))] ⟨h0, h1, rfl, h6⟩ ?_
      rintro s ⟨h0, h1, h4, h6⟩
      refine .nsq ?_
      refine .ret ?_
      have hr := Option.some.inj h
      subst hr
      exact rrA (res_tmp h4) rfl
  · refine .skip ?_
    refine .nsq ?_
    refine .seq ?_
    refine .seq ?_
    refine run_reg ?_
    refine e_end ?_
    refine g_v1 (t := 6) (u := (.bool r_4)) (.bool r_4) h6 rfl rfl ?_
    refine g_end ?_
    refine e_end ?_
    refine renew [(0, (.int .i64 x_1)), (1, (.int .i64 y_2)), (4, (.int .i64 0)), (13, (.bool r_4))] ⟨h0, h1, h4, rfl⟩ ?_
    rintro s ⟨h0, h1, h4, h13⟩
    refine .nsq ?_
    refine run_cond (t := r_4) h13 h (fun h => ?_) (fun h => ?_)
    · refine .seq ?_
      refine run_reg ?_
      refine e_end ?_
      refine g_v0 (.int .i64 1) rfl rfl ?_
      refine g_end ?_
      refine e_end ?_
      refine renew [(0, (.int .i64 x_1)), (1, (.int .i64 y_2)), (4, (.int .i64 1))] ⟨h0, h1, rfl⟩ ?_
      rintro s ⟨h0, h1, h4⟩
      refine .nsq ?_
      refine .ret ?_
      have hr := Option.some.inj h
      subst hr
      exact rrA (res_tmp h4) rfl
    · refine .skip ?_
      refine .nsq ?_
      refine .seq ?_
      refine .seq ?_
      refine run_reg ?_
      refine e_end ?_
      refine g_v1 (t := 0) (u := (.int .i64 x_1)) (.int .i64 x_1) h0 rfl rfl ?_
      refine g_v1 (t := 1) (u := (.int .i64 y_2)) (.int .i64 y_2) h1 rfl rfl ?_
      refine g_v2 (t1 := 14) (t2 := 15) (u1 := (.int .i64 x_1)) (u2 := (.int .i64 y_2)) (.bool (decide (x_1 < y_2))) rfl rfl rfl rfl ?_
      refine g_end ?_
      refine e_end ?_
      refine renew [(0, (.int .i64 x_1)), (1, (.int .i64 y_2)), (4, (.int .i64 0)), (16, (.bool (decide (x_1 < y_2))))] ⟨h0, h1, h4, rfl⟩ ?_
      rintro s ⟨h0, h1, h4, h16⟩
      refine .nsq ?_
      refine run_cond (t := decide (x_1 < y_2)) h16 h (fun h => ?_) (fun h => ?_)
      · refine .seq ?_
        refine run_reg ?_
        refine e_end ?_
        refine g_v0 (.int .i64 (-1)) rfl rfl ?_
        refine g_end ?_
        refine e_end ?_
        refine renew [(0, (.int .i64 x_1)), (1, (.int .i64 y_2)), (4, (.int .i64 (-1)))] ⟨h0, h1, rfl⟩ ?_
        rintro s ⟨h0, h1, h4⟩
        refine .nsq ?_
        refine .ret ?_
        have hr := Option.some.inj h
        subst hr
        exact rrA (res_tmp h4) rfl
      · refine .skip ?_
        refine .nsq ?_
        refine .seq ?_
        refine .seq ?_
        refine run_reg ?_
        refine e_end ?_
        refine g_v1 (t := 0) (u := (.int .i64 x_1)) (.int .i64 x_1) h0 rfl rfl ?_
        refine g_v1 (t := 1) (u := (.int .i64 y_2)) (.int .i64 y_2) h1 rfl rfl ?_
        refine g_v2 (t1 := 17) (t2 := 18) (u1 := (.int .i64 x_1)) (u2 := (.int .i64 y_2)) (.bool (decide (x_1 > y_2))) rfl rfl rfl rfl ?_
        refine g_end ?_
        refine e_end ?_
        refine renew [(4, (.int .i64 0)), (19, (.bool (decide (x_1 > y_2))))] ⟨h4, rfl⟩ ?_
        rintro s ⟨h4, h19⟩
        refine .nsq ?_
        refine run_cond (t := decide (x_1 > y_2)) h19 h (fun h => ?_) (fun h => ?_)
        · refine .seq ?_
          refine run_reg ?_
          refine e_end ?_
          refine g_v0 (.int .i64 1) rfl rfl ?_
          refine g_end ?_
          refine e_end ?_
          refine renew [(4, (.int .i64 1))] rfl ?_
          rintro s h4
          refine .nsq ?_
          refine .ret ?_
          have hr := Option.some.inj h
          subst hr
          exact rrA (res_tmp h4) rfl
        · refine .skip ?_
          refine .nsq ?_
          refine .seq ?_
          refine run_reg ?_
          refine e_end ?_
          refine g_v0 (.int .i64 0) rfl rfl ?_
          refine g_end ?_
          refine e_end ?_
          refine renew [(4, (.int .i64 0))] rfl ?_
          rintro s h4
          refine .nsq ?_
          refine .ret ?_
          have hr := Option.some.inj h
          subst hr
          exact rrA (res_tmp h4) rfl
end
def e131 (F : Nat) : Ent := ⟨131, dn2 (cmp_Compare_int F) (fun (r : Int) => (Enc.enc (r : Int))), 0, false⟩
theorem o131 {D : Den} {σ : Sig} {F : Nat} (hF : Fits2 Try.prog D σ) (H : H131 D σ F) : (e131 F).Ok Try.prog := by
  refine ⟨fun args r h => ?_, ⟨Try.f131, Try.func131, rfl, rfl⟩⟩
  obtain ⟨x0, x1, y, rfl, hy, rfl⟩ := dn2_open h
  exact contract_run hF (by kernel_rfl) Try.func131 rfl c131 (show 2 ≤ Try.f131.ntmps by decide) (t131 H x0 x1 _ ⟨rfl, rfl⟩ hy)
/- slices.Compare[[]int,int] -/
def A100_5 : AC := (AC.cond (O.t 19) (AC.seq (AC.reg [] [(I.mk (some 4) none false (X.v (A.mov (O.k (V.int IntKind.i64 (Int.ofNat 1))))))] []) AC.ret) AC.skip)
def A100_9 : AC := (AC.cond (O.t 28) (AC.seq (AC.reg [] [(I.mk (some 29) none false (X.v (A.mov (O.t 8)))), (I.mk (some 4) none false (X.v (A.mov (O.t 29))))] []) AC.ret) AC.skip)
def A100_8 : AC := (AC.seq (AC.reg [] [(I.mk (some 27) none false (X.v (A.mov (O.t 8)))), (I.mk (some 28) none false (X.v (A.bin BinOp.neq (O.t 27) (O.k (V.int IntKind.i64 (Int.ofNat 0))))))] []) A100_9)
def A100_7 : AC := (AC.seq (AC.reg [] [(I.mk (some 24) none false (X.v (A.mov (O.t 6)))), (I.mk (some 25) none false (X.v (A.mov (O.t 7)))), (I.mk (some 26) none false (X.call (O.k (V.fn 131 [] [])) [(O.t 24), (O.t 25)])), (I.mk (some 8) none false (X.v (A.mov (O.t 26))))] []) A100_8)
def A100_6 : AC := (AC.seq (AC.reg [] [(I.mk (some 20) none false (X.v (A.mov (O.t 1)))), (I.mk (some 21) none false (X.v (A.mov (O.t 5)))), (I.mk (some 22) none false (X.v (A.idx (O.t 20) (O.t 21) 1))), (I.mk (some 23) none false (X.v (A.load Sh.s (O.t 22)))), (I.mk (some 7) none false (X.v (A.mov (O.t 23))))] []) A100_7)
def A100_4 : AC := (AC.seq (AC.seq (AC.reg [] [(I.mk (some 16) none false (X.v (A.mov (O.t 5)))), (I.mk (some 17) none false (X.v (A.mov (O.t 1)))), (I.mk (some 18) none false (X.v (A.len (O.t 17)))), (I.mk (some 19) none false (X.v (A.bin BinOp.geq (O.t 16) (O.t 18))))] []) A100_5) A100_6)
def A100_10 : AC := (AC.reg [] [(I.mk (some 30) none false (X.v (A.bin BinOp.add (O.t 11) (O.k (V.int IntKind.i64 (Int.ofNat 1)))))), (I.mk (some 11) none false (X.v (A.mov (O.t 30))))] [])
def A100_3 : AC := (AC.seq (AC.block 1 (AC.seq (AC.reg [] [(I.mk (some 13) none false (X.v (A.mov (O.t 11)))), (I.mk (some 14) none false (X.v (A.idx (O.t 9) (O.t 11) 1))), (I.mk (some 15) none false (X.v (A.load Sh.s (O.t 14)))), (I.mk (some 5) none false (X.v (A.mov (O.t 13)))), (I.mk (some 6) none false (X.v (A.mov (O.t 15))))] []) A100_4)) A100_10)
def A100_2 : AC := (AC.seq (AC.cond (O.t 12) AC.skip (AC.exit 0)) A100_3)
def A100_1 : AC := (AC.seq (AC.reg [] [(I.mk (some 12) none false (X.v (A.bin BinOp.lss (O.t 11) (O.t 10))))] []) A100_2)
def A100_12 : AC := (AC.cond (O.t 35) (AC.seq (AC.reg [] [(I.mk (some 4) none false (X.v (A.mov (O.k (V.int IntKind.i64 (Int.negSucc 0))))))] []) AC.ret) AC.skip)
def A100_13 : AC := (AC.seq (AC.reg [] [(I.mk (some 4) none false (X.v (A.mov (O.k (V.int IntKind.i64 (Int.ofNat 0))))))] []) AC.ret)
def A100_11 : AC := (AC.seq (AC.seq (AC.reg [] [(I.mk (some 31) none false (X.v (A.mov (O.t 0)))), (I.mk (some 32) none false (X.v (A.len (O.t 31)))), (I.mk (some 33) none false (X.v (A.mov (O.t 1)))), (I.mk (some 34) none false (X.v (A.len (O.t 33)))), (I.mk (some 35) none false (X.v (A.bin BinOp.lss (O.t 32) (O.t 34))))] []) A100_12) A100_13)
def A100_15 : AC := (AC.block 0 (AC.loop A100_1))
def A100_14 : AC := (AC.seq (AC.seq (AC.reg [] [(I.mk (some 9) none false (X.v (A.mov (O.t 0)))), (I.mk (some 10) none false (X.v (A.len (O.t 9)))), (I.mk (some 11) none false (X.v (A.mov (O.k (V.int IntKind.i64 (Int.ofNat 0))))))] []) A100_15) A100_11)
def A100 : AC := (AC.seq (AC.reg [] [(I.mk (some 4) none false (X.v (A.mov (O.k (V.int IntKind.i64 (Int.ofNat 0))))))] []) A100_14)
def an100 : List An := []
theorem c100 : cC Try.prog Try.f100.ntmps an100 (Try.f100.body.getD .skip) = some A100 := by kernel_rfl
structure H100 (D : Den) (σ : Sig) (F : Nat) : Prop where
  c131 : ∀ x0 x1 r, cmp_Compare_int F x0 x1 = some r → D 131 [Enc.enc x0, Enc.enc x1] = some (Enc.enc (r : Int))
  g131 : σ 131 = some (0, false)
abbrev R100 (r : Int) : (Nat → V) → Prop := RR Try.prog [.tmp 4] 0 false (Enc.enc (r : Int))
section
variable {D : Den} {σ : Sig} {F : Nat} {r : Int}
def slices_Compare_l1 (F : Nat) (s1_1 : (List Int)) (s2_2 : (List Int))  : Nat → Int → Option Int
  | 0, _ => none
  | k + 1, t11_6 =>
    bif decide (t11_6 < (s1_1.length : Int)) then
      (idx s1_1 t11_6).bind fun e_10 =>
      bif decide (t11_6 ≥ (s2_2.length : Int)) then
        some 1
      else
        (idx s2_2 t11_6).bind fun e_11 =>
        (cmp_Compare_int F e_10 e_11).bind fun r_12 =>
        bif (r_12 != 0) then
          some r_12
        else
          (slices_Compare_l1 F s1_1 s2_2 k) (w64 (t11_6 + 1))
    else
      bif decide ((s1_1.length : Int) < (s2_2.length : Int)) then
        some (-1)
      else
        some 0
theorem t_f100_l1 (H : H100 D σ F) (s1_1 : (List Int)) (s2_2 : (List Int))  : ∀ (k : Nat) (t11_6 : Int) (s : Nat → V), Facts [(0, (Enc.enc (s1_1 : List Int))), (1, (Enc.enc (s2_2 : List Int))), (4, (.int .i64 0)), (9, (Enc.enc (s1_1 : List Int))), (10, (.int .i64 (s1_1.length : Int))), (11, (.int .i64 t11_6))] s → slices_Compare_l1 F s1_1 s2_2 k t11_6 = some r → Run D σ (R100 r) (.run A100_1 [.lp A100_1, .bk 0, .sq A100_11]) s := by
  intro k
  induction k with
  | zero => intro t11_6 s _ h; exact nomatch (h : (none : Option _) = some r)
  | succ k ih =>
    intro t11_6 s hs h
    rw [slices_Compare_l1] at h
    obtain ⟨h0, h1, h4, h9, h10, h11⟩ := hs
    refine .seq ?_
    refine run_reg ?_
    refine e_end ?_
    refine g_v2 (t1 := 11) (t2 := 10) (u1 := (.int .i64 t11_6)) (u2 := (.int .i64 (s1_1.length : Int))) (.bool (decide (t11_6 < (s1_1.length : Int)))) h11 h10 rfl rfl ?_
    refine g_end ?_
    refine e_end ?_
    refine renew [(0, (Enc.enc (s1_1 : List Int))), (1, (Enc.enc (s2_2 : List Int))), (4, (.int .i64 0)), (9, (Enc.enc (s1_1 : List Int))), (10, (.int .i64 (s1_1.length : Int))), (11, (.int .i64 t11_6)), (12, (.bool (decide (t11_6 < (s1_1.length : Int)))))] ⟨h0, h1, h4, h9, h10, h11, rfl⟩ ?_
    rintro s ⟨h0, h1, h4, h9, h10, h11, h12⟩
    refine .nsq ?_
    refine .seq ?_
    refine run_cond (t := decide (t11_6 < (s1_1.length : Int))) h12 h (fun h => ?_) (fun h => ?_)
    · refine .skip ?_
      refine .nsq ?_
      refine .seq ?_
      refine .block ?_
      refine .seq ?_
      refine run_reg ?_
      refine e_end ?_
      refine g_v1 (t := 11) (u := (.int .i64 t11_6)) (.int .i64 t11_6) h11 rfl rfl ?_
      obtain ⟨e_10, E_e_10, h⟩ := bind_some h
      refine g_v (.ref .sh 0 [] (.int .i64 e_10)) (ev_idx (t := .sh) (lo := 0) (xs := s1_1) h9 h11 E_e_10 rfl rfl) ?_
      refine g_v1 (t := 14) (u := (.ref .sh 0 [] (.int .i64 e_10))) (.int .i64 e_10) rfl rfl rfl ?_
      refine g_v1 (t := 13) (u := (.int .i64 t11_6)) (.int .i64 t11_6) rfl rfl rfl ?_
      refine g_v1 (t := 15) (u := (.int .i64 e_10)) (.int .i64 e_10) rfl rfl rfl ?_
      refine g_end ?_
      refine e_end ?_
      refine renew [(0, (Enc.enc (s1_1 : List Int))), (1, (Enc.enc (s2_2 : List Int))), (4, (.int .i64 0)), (5, (.int .i64 t11_6)), (6, (.int .i64 e_10)), (9, (Enc.enc (s1_1 : List Int))), (10, (.int .i64 (s1_1.length : Int))), (11, (.int .i64 t11_6))] ⟨h0, h1, h4, rfl, rfl, h9, h10, h11⟩ ?_
      rintro s ⟨h0, h1, h4, h5, h6, h9, h10, h11⟩
      refine .nsq ?_
      refine .seq ?_
      refine .seq ?_
      refine run_reg ?_
      refine e_end ?_
      refine g_v1 (t := 5) (u := (.int .i64 t11_6)) (.int .i64 t11_6) h5 rfl rfl ?_
      refine g_v1 (t := 1) (u := (Enc.enc (s2_2 : List Int))) (Enc.enc (s2_2 : List Int)) h1 rfl rfl ?_
      refine g_v (.int .i64 (s2_2.length : Int)) (ev_len (xs := s2_2) rfl) ?_
      refine g_v2 (t1 := 16) (t2 := 18) (u1 := (.int .i64 t11_6)) (u2 := (.int .i64 (s2_2.length : Int))) (.bool (decide (t11_6 ≥ (s2_2.length : Int)))) rfl rfl rfl rfl ?_
      refine g_end ?_
      refine e_end ?_
      refine renew [(0, (Enc.enc (s1_1 : List Int))), (1, (Enc.enc (s2_2 : List Int))), (4, (.int .i64 0)), (5, (.int .i64 t11_6)), (6, (.int .i64 e_10)), (9, (Enc.enc (s1_1 : List Int))), (10, (.int .i64 (s1_1.length : Int))), (11, (.int .i64 t11_6)), (19, (.bool (decide (t11_6 ≥ (s2_2.length : Int)))))] ⟨h0, h1, h4, h5, h6, h9, h10, h11, rfl⟩ ?_
      rintro s ⟨h0, h1, h4, h5, h6, h9, h10, h11, h19⟩
      refine .nsq ?_
      refine run_cond (t := decide (t11_6 ≥ (s2_2.length : Int))) h19 h (fun h => ?_) (fun h => ?_)
      · refine .seq ?_
        refine run_reg ?_
        refine e_end ?_
        refine g_v0 (.int .i64 1) rfl rfl ?_
        refine g_end ?_
        refine e_end ?_
        refine renew [(0, (Enc.enc (s1_1 : List Int))), (1, (Enc.enc (s2_2 : List Int))), (4, (.int .i64 1)), (5, (.int .i64 t11_6)), (6, (.int .i64 e_10)), (9, (Enc.enc (s1_1 : List Int))), (10, (.int .i64 (s1_1.length : Int))), (11, (.int .i64 t11_6))] ⟨h0, h1, rfl, h5, h6, h9, h10, h11⟩ ?_
        rintro s ⟨h0, h1, h4, h5, h6, h9, h10, h11⟩
        refine .nsq ?_
        refine .ret ?_
        have hr := Option.some.inj h
        subst hr
        exact rrA (res_tmp h4) rfl
      · refine .skip ?_
        refine .nsq ?_
        refine .seq ?_
        refine run_reg ?_
        refine e_end ?_
        refine g_v1 (t := 1) (u := (Enc.enc (s2_2 : List Int))) (Enc.enc (s2_2 : List Int)) h1 rfl rfl ?_
        refine g_v1 (t := 5) (u := (.int .i64 t11_6)) (.int .i64 t11_6) h5 rfl rfl ?_
        obtain ⟨e_11, E_e_11, h⟩ := bind_some h
        refine g_v (.ref .sh 0 [] (.int .i64 e_11)) (ev_idx (t := .sh) (lo := 0) (xs := s2_2) rfl rfl E_e_11 rfl rfl) ?_
        refine g_v1 (t := 22) (u := (.ref .sh 0 [] (.int .i64 e_11))) (.int .i64 e_11) rfl rfl rfl ?_
        refine g_v1 (t := 23) (u := (.int .i64 e_11)) (.int .i64 e_11) rfl rfl rfl ?_
        refine g_end ?_
        refine e_end ?_
        refine renew [(0, (Enc.enc (s1_1 : List Int))), (1, (Enc.enc (s2_2 : List Int))), (4, (.int .i64 0)), (6, (.int .i64 e_10)), (7, (.int .i64 e_11)), (9, (Enc.enc (s1_1 : List Int))), (10, (.int .i64 (s1_1.length : Int))), (11, (.int .i64 t11_6))] ⟨h0, h1, h4, h6, rfl, h9, h10, h11⟩ ?_
        rintro s ⟨h0, h1, h4, h6, h7, h9, h10, h11⟩
        refine .nsq ?_
        refine .seq ?_
        refine run_reg ?_
        refine e_end ?_
        refine g_v1 (t := 6) (u := (.int .i64 e_10)) (.int .i64 e_10) h6 rfl rfl ?_
        refine g_v1 (t := 7) (u := (.int .i64 e_11)) (.int .i64 e_11) h7 rfl rfl ?_
        obtain ⟨r_12, E_r_12, h⟩ := bind_some h
        refine g_call (m := 0) (al := false) (r := (Enc.enc (r_12 : Int))) [Enc.enc (e_10 : Int), Enc.enc (e_11 : Int)] (ta_cons (v := (.int .i64 e_10)) rfl rfl rfl (ta_cons (v := (.int .i64 e_11)) rfl rfl rfl ta_nil)) (H.c131 _ _ _ E_r_12) H.g131 rfl rfl rfl rfl ?_
        refine g_v1 (t := 26) (u := (.int .i64 r_12)) (.int .i64 r_12) rfl rfl rfl ?_
        refine g_end ?_
        refine e_end ?_
        refine renew [(0, (Enc.enc (s1_1 : List Int))), (1, (Enc.enc (s2_2 : List Int))), (4, (.int .i64 0)), (8, (.int .i64 r_12)), (9, (Enc.enc (s1_1 : List Int))), (10, (.int .i64 (s1_1.length : Int))), (11, (.int .i64 t11_6))] ⟨h0, h1, h4, rfl, h9, h10, h11⟩ ?_
        rintro s ⟨h0, h1, h4, h8, h9, h10, h11⟩
        refine .nsq ?_
        refine .seq ?_
        refine run_reg ?_
        refine e_end ?_
        refine g_v1 (t := 8) (u := (.int .i64 r_12)) (.int .i64 r_12) h8 rfl rfl ?_
        refine g_v1 (t := 27) (u := (.int .i64 r_12)) (.bool (r_12 != 0)) rfl rfl rfl ?_
        refine g_end ?_
        refine e_end ?_
        refine renew [(0, (Enc.enc (s1_1 : List Int))), (1, (Enc.enc (s2_2 : List Int))), (4, (.int .i64 0)), (8, (.int .i64 r_12)), (9, (Enc.enc (s1_1 : List Int))), (10, (.int .i64 (s1_1.length : Int))), (11, (.int .i64 t11_6)), (28, (.bool (r_12 != 0)))] ⟨h0, h1, h4, h8, h9, h10, h11, rfl⟩ ?_
        rintro s ⟨h0, h1, h4, h8, h9, h10, h11, h28⟩
        refine .nsq ?_
        refine run_cond (t := (r_12 != 0)) h28 h (fun h => ?_) (fun h => ?_)
        · refine .seq ?_
          refine run_reg ?_
          refine e_end ?_
          refine g_v1 (t := 8) (u := (.int .i64 r_12)) (.int .i64 r_12) h8 rfl rfl ?_
          refine g_v1 (t := 29) (u := (.int .i64 r_12)) (.int .i64 r_12) rfl rfl rfl ?_
          refine g_end ?_
          refine e_end ?_
          refine renew [(0, (Enc.enc (s1_1 : List Int))), (1, (Enc.enc (s2_2 : List Int))), (4, (.int .i64 r_12)), (9, (Enc.enc (s1_1 : List Int))), (10, (.int .i64 (s1_1.length : Int))), (11, (.int .i64 t11_6))] ⟨h0, h1, rfl, h9, h10, h11⟩ ?_
          rintro s ⟨h0, h1, h4, h9, h10, h11⟩
          refine .nsq ?_
          refine .ret ?_
          have hr := Option.some.inj h
          subst hr
          exact rrA (res_tmp h4) rfl
        · refine .skip ?_
          refine .nbk ?_
          refine .nsq ?_
          refine run_reg ?_
          refine e_end ?_
          refine g_v1 (t := 11) (u := (.int .i64 t11_6)) (.int .i64 (w64 (t11_6 + 1))) h11 rfl rfl ?_
          refine g_v1 (t := 30) (u := (.int .i64 (w64 (t11_6 + 1)))) (.int .i64 (w64 (t11_6 + 1))) rfl rfl rfl ?_
          refine g_end ?_
          refine e_end ?_
          refine renew [(0, (Enc.enc (s1_1 : List Int))), (1, (Enc.enc (s2_2 : List Int))), (4, (.int .i64 0)), (9, (Enc.enc (s1_1 : List Int))), (10, (.int .i64 (s1_1.length : Int))), (11, (.int .i64 (w64 (t11_6 + 1))))] ⟨h0, h1, h4, h9, h10, rfl⟩ ?_
          rintro s ⟨h0, h1, h4, h9, h10, h11⟩
          refine .nlp ?_
          exact ih (w64 (t11_6 + 1)) _ ⟨h0, h1, h4, h9, h10, h11⟩ h
    · refine .exit ?_
      refine .esq ?_
      refine .elp ?_
      refine .ebk ?_
      refine .nsq ?_
      refine .seq ?_
      refine .seq ?_
      refine run_reg ?_
      refine e_end ?_
      refine g_v1 (t := 0) (u := (Enc.enc (s1_1 : List Int))) (Enc.enc (s1_1 : List Int)) h0 rfl rfl ?_
      refine g_v (.int .i64 (s1_1.length : Int)) (ev_len (xs := s1_1) rfl) ?_
      refine g_v1 (t := 1) (u := (Enc.enc (s2_2 : List Int))) (Enc.enc (s2_2 : List Int)) h1 rfl rfl ?_
      refine g_v (.int .i64 (s2_2.length : Int)) (ev_len (xs := s2_2) rfl) ?_
      refine g_v2 (t1 := 32) (t2 := 34) (u1 := (.int .i64 (s1_1.length : Int))) (u2 := (.int .i64 (s2_2.length : Int))) (.bool (decide ((s1_1.length : Int) < (s2_2.length : Int)))) rfl rfl rfl rfl ?_
      refine g_end ?_
      refine e_end ?_
      refine renew [(4, (.int .i64 0)), (35, (.bool (decide ((s1_1.length : Int) < (s2_2.length : Int)))))] ⟨h4, rfl⟩ ?_
      rintro s ⟨h4, h35⟩
      refine .nsq ?_
      refine run_cond (t := decide ((s1_1.length : Int) < (s2_2.length : Int))) h35 h (fun h => ?_) (fun h => ?_)
      · refine .seq ?_
        refine run_reg ?_
        refine e_end ?_
        refine g_v0 (.int .i64 (-1)) rfl rfl ?_
        refine g_end ?_
        refine e_end ?_
        refine renew [(4, (.int .i64 (-1)))] rfl ?_
        rintro s h4
        refine .nsq ?_
        refine .ret ?_
        have hr := Option.some.inj h
        subst hr
        exact rrA (res_tmp h4) rfl
      · refine .skip ?_
        refine .nsq ?_
        refine .seq ?_
        refine run_reg ?_
        refine e_end ?_
        refine g_v0 (.int .i64 0) rfl rfl ?_
        refine g_end ?_
        refine e_end ?_
        refine renew [(4, (.int .i64 0))] rfl ?_
        rintro s h4
        refine .nsq ?_
        refine .ret ?_
        have hr := Option.some.inj h
        subst hr
        exact rrA (res_tmp h4) rfl
def slices_Compare (F : Nat) (s1_1 : (List Int)) (s2_2 : (List Int)) : Option Int :=
  slices_Compare_l1 F s1_1 s2_2 F 0
theorem t100 (H : H100 D σ F) (s1_1 : (List Int)) (s2_2 : (List Int)) (s : Nat → V) (hs : Facts [(0, (Enc.enc (s1_1 : List Int))), (1, (Enc.enc (s2_2 : List Int)))] s) (h : slices_Compare F s1_1 s2_2 = some r) : Run D σ (R100 r) (.run A100 []) s := by
  unfold slices_Compare at h
  obtain ⟨h0, h1⟩ := hs
  refine .seq ?_
  refine run_reg ?_
  refine e_end ?_
  refine g_v0 (.int .i64 0) rfl rfl ?_
  refine g_end ?_
  refine e_end ?_
  refine renew [(0, (Enc.enc (s1_1 : List Int))), (1, (Enc.enc (s2_2 : List Int))), (4, (.int .i64 0))] ⟨h0, h1, rfl⟩ ?_
  rintro s ⟨h0, h1, h4⟩
  refine .nsq ?_
  refine .seq ?_
  refine .seq ?_
  refine run_reg ?_
  refine e_end ?_
  refine g_v1 (t := 0) (u := (Enc.enc (s1_1 : List Int))) (Enc.enc (s1_1 : List Int)) h0 rfl rfl ?_
  refine g_v (.int .i64 (s1_1.length : Int)) (ev_len (xs := s1_1) rfl) ?_
  refine g_v0 (.int .i64 0) rfl rfl ?_
  refine g_end ?_
  refine e_end ?_
  refine renew [(0, (Enc.enc (s1_1 : List Int))), (1, (Enc.enc (s2_2 : List Int))), (4, (.int .i64 0)), (9, (Enc.enc (s1_1 : List Int))), (10, (.int .i64 (s1_1.length : Int))), (11, (.int .i64 0))] ⟨h0, h1, h4, rfl, rfl, rfl⟩ ?_
  rintro s ⟨h0, h1, h4, h9, h10, h11⟩
  refine .nsq ?_
  refine .block ?_
  refine .loop ?_
  exact t_f100_l1 H s1_1 s2_2 F 0 _ ⟨h0, h1, h4, h9, h10, h11⟩ h
end
def e100 (F : Nat) : Ent := ⟨100, dn2 (slices_Compare F) (fun (r : Int) => (Enc.enc (r : Int))), 0, false⟩
theorem o100 {D : Den} {σ : Sig} {F : Nat} (hF : Fits2 Try.prog D σ) (H : H100 D σ F) : (e100 F).Ok Try.prog := by
  refine ⟨fun args r h => ?_, ⟨Try.f100, Try.func100, rfl, rfl⟩⟩
  obtain ⟨x0, x1, y, rfl, hy, rfl⟩ := dn2_open h
  exact contract_run hF (by kernel_rfl) Try.func100 rfl c100 (show 2 ≤ Try.f100.ntmps by decide) (t100 H x0 x1 _ ⟨rfl, rfl⟩ hy)
/- loop.example/g01109/impl.IsGraph -/
def A50_5 : AC := (AC.cond (O.t 48) (AC.seq (AC.reg [] [(I.mk (some 2) none false (X.v (A.mov (O.k (V.bool false)))))] []) AC.ret) AC.skip)
def A50_4 : AC := (AC.seq (AC.reg [] [(I.mk (some 17) none false (X.v (A.idxA (O.t 4) (O.k (V.int IntKind.i64 (Int.ofNat 0))) 2 1))), (I.mk (some 18) none false (X.v (A.load Sh.s (O.t 17)))), (I.mk (some 19) none false (X.v (A.bin BinOp.lss (O.t 18) (O.k (V.int IntKind.i64 (Int.ofNat 0)))))), (I.mk (some 20) none false (X.v (A.mov (O.t 19)))), (I.mk (some 21) (some (20, false)) false (X.v (A.idxA (O.t 4) (O.k (V.int IntKind.i64 (Int.ofNat 0))) 2 1))), (I.mk (some 22) (some (20, false)) false (X.v (A.load Sh.s (O.t 21)))), (I.mk (some 23) (some (20, false)) false (X.v (A.idxA (O.t 4) (O.k (V.int IntKind.i64 (Int.ofNat 1))) 2 1))), (I.mk (some 24) (some (20, false)) false (X.v (A.load Sh.s (O.t 23)))), (I.mk (some 25) (some (20, false)) false (X.v (A.bin BinOp.geq (O.t 22) (O.t 24)))), (I.mk (some 26) none false (X.v (A.pick (O.t 20) (O.k (V.bool true)) (O.t 25)))), (I.mk (some 27) none false (X.v (A.mov (O.t 26)))), (I.mk (some 28) (some (27, false)) false (X.v (A.idxA (O.t 4) (O.k (V.int IntKind.i64 (Int.ofNat 1))) 2 1))), (I.mk (some 29) (some (27, false)) false (X.v (A.load Sh.s (O.t 28)))), (I.mk (some 30) (some (27, false)) false (X.v (A.fld (O.t 1) 0 0))), (I.mk (some 31) (some (27, false)) false (X.v (A.load Sh.s (O.t 30)))), (I.mk (some 32) (some (27, false)) false (X.v (A.bin BinOp.geq (O.t 29) (O.t 31)))), (I.mk (some 33) none false (X.v (A.pick (O.t 27) (O.k (V.bool true)) (O.t 32)))), (I.mk (some 34) none false (X.v (A.mov (O.t 33)))), (I.mk (some 35) (some (34, false)) false (X.v (A.mov (O.t 3)))), (I.mk (some 36) (some (34, false)) false (X.v (A.bin BinOp.gtr (O.t 35) (O.k (V.int IntKind.i64 (Int.ofNat 0)))))), (I.mk (some 37) (some (34, false)) false (X.v (A.mov (O.t 36)))), (I.mk (some 38) (some (37, true)) false (X.v (A.fld (O.t 1) 1 1))), (I.mk (some 39) (some (37, true)) false (X.v (A.load Sh.p (O.t 38)))), (I.mk (some 40) (some (37, true)) false (X.v (A.mov (O.t 3)))), (I.mk (some 41) (some (37, true)) false (X.v (A.bin BinOp.sub (O.t 40) (O.k (V.int IntKind.i64 (Int.ofNat 1)))))), (I.mk (some 42) (some (37, true)) false (X.v (A.idx (O.t 39) (O.t 41) 2))), (I.mk (some 43) (some (37, true)) false (X.v (A.sliceA (O.t 42) 2 Sh.s))), (I.mk (some 44) (some (37, true)) false (X.v (A.sliceA (O.t 4) 2 Sh.s))), (I.mk (some 45) (some (37, true)) false (X.call (O.k (V.fn 100 [] [])) [(O.t 43), (O.t 44)])), (I.mk (some 46) (some (37, true)) false (X.v (A.bin BinOp.geq (O.t 45) (O.k (V.int IntKind.i64 (Int.ofNat 0)))))), (I.mk (some 47) (some (34, false)) false (X.v (A.pick (O.t 37) (O.t 46) (O.k (V.bool false))))), (I.mk (some 48) none false (X.v (A.pick (O.t 34) (O.k (V.bool true)) (O.t 47))))] []) A50_5)
def A50_6 : AC := (AC.reg [] [(I.mk (some 49) none false (X.v (A.bin BinOp.add (O.t 12) (O.k (V.int IntKind.i64 (Int.ofNat 1)))))), (I.mk (some 12) none false (X.v (A.mov (O.t 49))))] [])
def A50_3 : AC := (AC.seq (AC.block 1 (AC.seq (AC.reg [.clr [4]] [(I.mk (some 14) none false (X.v (A.mov (O.t 12)))), (I.mk (some 15) none false (X.v (A.idx (O.t 10) (O.t 12) 2))), (I.mk (some 16) none false (X.v (A.load (Sh.ag [Sh.s, Sh.s]) (O.t 15)))), (I.mk (some 4) none false (X.alloc (V.agg [(V.int IntKind.i64 (Int.ofNat 0)), (V.int IntKind.i64 (Int.ofNat 0))]))), (I.mk (some 3) none false (X.v (A.mov (O.t 14)))), (I.mk none none false (X.store (Sh.ag [Sh.s, Sh.s]) (O.t 4) (O.t 16)))] []) A50_4)) A50_6)
def A50_2 : AC := (AC.seq (AC.cond (O.t 13) AC.skip (AC.exit 0)) A50_3)
def A50_1 : AC := (AC.seq (AC.reg [] [(I.mk (some 13) none false (X.v (A.bin BinOp.lss (O.t 12) (O.t 11))))] []) A50_2)
def A50_7 : AC := (AC.seq (AC.reg [] [(I.mk (some 2) none false (X.v (A.mov (O.k (V.bool true)))))] []) AC.ret)
def A50_9 : AC := (AC.cond (O.t 8) (AC.seq (AC.reg [] [(I.mk (some 2) none false (X.v (A.mov (O.k (V.bool false)))))] []) AC.ret) AC.skip)
def A50_11 : AC := (AC.block 0 (AC.loop A50_1))
def A50_10 : AC := (AC.seq (AC.seq (AC.reg [] [(I.mk (some 9) none false (X.v (A.fld (O.t 1) 1 1))), (I.mk (some 10) none false (X.v (A.load Sh.p (O.t 9)))), (I.mk (some 11) none false (X.v (A.len (O.t 10)))), (I.mk (some 12) none false (X.v (A.mov (O.k (V.int IntKind.i64 (Int.ofNat 0))))))] []) A50_11) A50_7)
def A50_8 : AC := (AC.seq (AC.seq (AC.reg [] [(I.mk (some 5) none false (X.v (A.fld (O.t 1) 0 0))), (I.mk (some 6) none false (X.v (A.load Sh.s (O.t 5)))), (I.mk (some 7) none false (X.call (O.k (V.fn 66 [] [])) [(O.t 6), (O.k (V.int IntKind.i64 (Int.ofNat 0))), (O.k (V.int IntKind.i64 (Int.ofNat 8)))])), (I.mk (some 8) none false (X.v (A.un UnOp.not (O.t 7))))] []) A50_9) A50_10)
def A50 : AC := (AC.seq (AC.reg [.clr [1]] [(I.mk (some 1) none false (X.box (O.t 0))), (I.mk (some 2) none false (X.v (A.mov (O.k (V.bool false)))))] []) A50_8)
def an50 : List An := [{ id := 0, pre := [.clr [1]], ep := [], lin := [], sp := [] }, { id := 5, pre := [.clr [4]], ep := [], lin := [], sp := [] }]
theorem c50 : cC Try.prog Try.f50.ntmps an50 (Try.f50.body.getD .skip) = some A50 := by kernel_rfl
structure H50 (D : Den) (σ : Sig) (F : Nat) : Prop where
  c66 : ∀ x0 x1 x2 r, i_within F x0 x1 x2 = some r → D 66 [Enc.enc x0, Enc.enc x1, Enc.enc x2] = some (Enc.enc (r : Bool))
  g66 : σ 66 = some (0, false)
  c100 : ∀ x0 x1 r, slices_Compare F x0 x1 = some r → D 100 [Enc.enc x0, Enc.enc x1] = some (Enc.enc (r : Int))
  g100 : σ 100 = some (0, false)
abbrev R50 (r : Bool) : (Nat → V) → Prop := RR Try.prog [.tmp 2] 0 false (Enc.enc (r : Bool))
section
variable {D : Den} {σ : Sig} {F : Nat} {r : Bool}
def i_IsGraph_j1 (F : Nat) (g_1 : (Int × (List (Int × Int)))) (t12_9 : Int) (c1 : Int → Option Bool) (t48_19 : Bool) : Option Bool :=
  bif t48_19 then
    some false
  else
    c1 (w64 (t12_9 + 1))
theorem t_f50_j1 (H : H50 D σ F) (g_1 : (Int × (List (Int × Int)))) (t12_9 : Int) (c1 : Int → Option Bool) (Hc1 : ∀ (t12_9 : Int) (s : Nat → V), Facts [(1, (.ref (.bx 1) 0 [] (.agg [(.int .i64 g_1.1), (Enc.enc (g_1.2 : List (Int × Int)))]))), (2, (.bool false)), (10, (Enc.enc (g_1.2 : List (Int × Int)))), (11, (.int .i64 (g_1.2.length : Int))), (12, (.int .i64 t12_9))] s → c1 t12_9 = some r → Run D σ (R50 r) (.run A50_1 [.lp A50_1, .bk 0, .sq A50_7]) s) (t48_19 : Bool) (s : Nat → V) (hs : Facts [(1, (.ref (.bx 1) 0 [] (.agg [(.int .i64 g_1.1), (Enc.enc (g_1.2 : List (Int × Int)))]))), (2, (.bool false)), (10, (Enc.enc (g_1.2 : List (Int × Int)))), (11, (.int .i64 (g_1.2.length : Int))), (12, (.int .i64 t12_9)), (48, (.bool t48_19))] s) (h : i_IsGraph_j1 F g_1 t12_9 c1 t48_19 = some r) : Run D σ (R50 r) (.nrm [.sq A50_5, .bk 1, .sq A50_6, .lp A50_1, .bk 0, .sq A50_7]) s := by
  unfold i_IsGraph_j1 at h
  obtain ⟨h1, h2, h10, h11, h12, h48⟩ := hs
  refine .nsq ?_
  refine run_cond (t := t48_19) h48 h (fun h => ?_) (fun h => ?_)
  · refine .seq ?_
    refine run_reg ?_
    refine e_end ?_
    refine g_v0 (.bool false) rfl rfl ?_
    refine g_end ?_
    refine e_end ?_
    refine renew [(1, (.ref (.bx 1) 0 [] (.agg [(.int .i64 g_1.1), (Enc.enc (g_1.2 : List (Int × Int)))]))), (2, (.bool false)), (10, (Enc.enc (g_1.2 : List (Int × Int)))), (11, (.int .i64 (g_1.2.length : Int))), (12, (.int .i64 t12_9))] ⟨h1, rfl, h10, h11, h12⟩ ?_
    rintro s ⟨h1, h2, h10, h11, h12⟩
    refine .nsq ?_
    refine .ret ?_
    have hr := Option.some.inj h
    subst hr
    exact rrA (res_tmp h2) rfl
  · refine .skip ?_
    refine .nbk ?_
    refine .nsq ?_
    refine run_reg ?_
    refine e_end ?_
    refine g_v1 (t := 12) (u := (.int .i64 t12_9)) (.int .i64 (w64 (t12_9 + 1))) h12 rfl rfl ?_
    refine g_v1 (t := 49) (u := (.int .i64 (w64 (t12_9 + 1)))) (.int .i64 (w64 (t12_9 + 1))) rfl rfl rfl ?_
    refine g_end ?_
    refine e_end ?_
    refine renew [(1, (.ref (.bx 1) 0 [] (.agg [(.int .i64 g_1.1), (Enc.enc (g_1.2 : List (Int × Int)))]))), (2, (.bool false)), (10, (Enc.enc (g_1.2 : List (Int × Int)))), (11, (.int .i64 (g_1.2.length : Int))), (12, (.int .i64 (w64 (t12_9 + 1))))] ⟨h1, h2, h10, h11, rfl⟩ ?_
    rintro s ⟨h1, h2, h10, h11, h12⟩
    refine .nlp ?_
    exact Hc1 (w64 (t12_9 + 1)) _ ⟨h1, h2, h10, h11, h12⟩ h
def i_IsGraph_l1 (F : Nat) (g_1 : (Int × (List (Int × Int))))  : Nat → Int → Option Bool
  | 0, _ => none
  | k + 1, t12_9 =>
    bif decide (t12_9 < (g_1.2.length : Int)) then
      (idx g_1.2 t12_9).bind fun e_16 =>
      bif decide (e_16.1 < 0) then
        i_IsGraph_j1 F g_1 t12_9 (i_IsGraph_l1 F g_1 k) true
      else
        bif decide (e_16.1 ≥ e_16.2) then
          i_IsGraph_j1 F g_1 t12_9 (i_IsGraph_l1 F g_1 k) true
        else
          bif decide (e_16.2 ≥ g_1.1) then
            i_IsGraph_j1 F g_1 t12_9 (i_IsGraph_l1 F g_1 k) true
          else
            bif decide (t12_9 > 0) then
              (idx g_1.2 (w64 (t12_9 - 1))).bind fun e_20 =>
              (slices_Compare F [e_20.1, e_20.2] [e_16.1, e_16.2]).bind fun r_21 =>
              i_IsGraph_j1 F g_1 t12_9 (i_IsGraph_l1 F g_1 k) (decide (r_21 ≥ 0))
            else
              i_IsGraph_j1 F g_1 t12_9 (i_IsGraph_l1 F g_1 k) false
    else
      some true
theorem t_f50_l1 (H : H50 D σ F) (g_1 : (Int × (List (Int × Int))))  : ∀ (k : Nat) (t12_9 : Int) (s : Nat → V), Facts [(1, (.ref (.bx 1) 0 [] (.agg [(.int .i64 g_1.1), (Enc.enc (g_1.2 : List (Int × Int)))]))), (2, (.bool false)), (10, (Enc.enc (g_1.2 : List (Int × Int)))), (11, (.int .i64 (g_1.2.length : Int))), (12, (.int .i64 t12_9))] s → i_IsGraph_l1 F g_1 k t12_9 = some r → Run D σ (R50 r) (.run A50_1 [.lp A50_1, .bk 0, .sq A50_7]) s := by
  intro k
  induction k with
  | zero => intro t12_9 s _ h; exact nomatch (h : (none : Option _) = some r)
  | succ k ih =>
    intro t12_9 s hs h
    rw [i_IsGraph_l1] at h
    obtain ⟨h1, h2, h10, h11, h12⟩ := hs
    refine .seq ?_
    refine run_reg ?_
    refine e_end ?_
    refine g_v2 (t1 := 12) (t2 := 11) (u1 := (.int .i64 t12_9)) (u2 := (.int .i64 (g_1.2.length : Int))) (.bool (decide (t12_9 < (g_1.2.length : Int)))) h12 h11 rfl rfl ?_
    refine g_end ?_
    refine e_end ?_
    refine renew [(1, (.ref (.bx 1) 0 [] (.agg [(.int .i64 g_1.1), (Enc.enc (g_1.2 : List (Int × Int)))]))), (2, (.bool false)), (10, (Enc.enc (g_1.2 : List (Int × Int)))), (11, (.int .i64 (g_1.2.length : Int))), (12, (.int .i64 t12_9)), (13, (.bool (decide (t12_9 < (g_1.2.length : Int)))))] ⟨h1, h2, h10, h11, h12, rfl⟩ ?_
    rintro s ⟨h1, h2, h10, h11, h12, h13⟩
    refine .nsq ?_
    refine .seq ?_
    refine run_cond (t := decide (t12_9 < (g_1.2.length : Int))) h13 h (fun h => ?_) (fun h => ?_)
    · refine .skip ?_
      refine .nsq ?_
      refine .seq ?_
      refine .block ?_
      refine .seq ?_
      refine run_reg ?_
      refine e_clr ?_
      refine e_end ?_
      refine g_v1 (t := 12) (u := (.int .i64 t12_9)) (.int .i64 t12_9) (keep_clear (s := s) (pk := [4]) h12 rfl rfl) rfl rfl ?_
      obtain ⟨e_16, E_e_16, h⟩ := bind_some h
      refine g_v (.ref .sh 0 [] (.agg [(.int .i64 e_16.1), (.int .i64 e_16.2)])) (ev_idx (t := .sh) (lo := 0) (xs := g_1.2) (keep_clear (s := s) (pk := [4]) h10 rfl (Enc.map_enc _ (g_1.2 : List (Int × Int)))) (keep_clear (s := s) (pk := [4]) h12 rfl rfl) E_e_16 rfl rfl) ?_
      refine g_v1 (t := 15) (u := (.ref .sh 0 [] (.agg [(.int .i64 e_16.1), (.int .i64 e_16.2)]))) (.agg [(.int .i64 e_16.1), (.int .i64 e_16.2)]) rfl rfl rfl ?_
      refine g_alloc (gone_clear (s := s) (pk := [4]) (t := 4) rfl) ?_
      refine g_v1 (t := 14) (u := (.int .i64 t12_9)) (.int .i64 t12_9) rfl rfl rfl ?_
      refine g_store (.agg [(.int .i64 e_16.1), (.int .i64 e_16.2)]) (rd_of rfl rfl) (rd_of rfl rfl) (by refine ⟨by decide, by decide, rfl, rfl, rfl, ?_⟩; first | rfl | simp [V.toks, V.tokss, Enc.toks_enc]) ?_
      refine g_end ?_
      refine e_end ?_
      refine renew [(1, (.ref (.bx 1) 0 [] (.agg [(.int .i64 g_1.1), (Enc.enc (g_1.2 : List (Int × Int)))]))), (2, (.bool false)), (3, (.int .i64 t12_9)), (4, (.ref (.bx 4) 0 [] (.agg [(.int .i64 e_16.1), (.int .i64 e_16.2)]))), (10, (Enc.enc (g_1.2 : List (Int × Int)))), (11, (.int .i64 (g_1.2.length : Int))), (12, (.int .i64 t12_9))] ⟨(keep_mut (keep_clear (s := s) (pk := [4]) h1 rfl (map_bx rfl (map_agg (maps_cons rfl (maps_cons (Enc.map_enc _ (g_1.2 : List (Int × Int))) maps_nil))))) (mut_ref_ne rfl rfl (mut_agg (muts_cons rfl (muts_cons (Enc.mut_enc _ _ _ _ (g_1.2 : List (Int × Int))) rfl))))), (keep_mut (keep_clear (s := s) (pk := [4]) h2 rfl rfl) rfl), (keep_mut rfl rfl), (keep_mut rfl rfl), (keep_mut (keep_clear (s := s) (pk := [4]) h10 rfl (Enc.map_enc _ (g_1.2 : List (Int × Int)))) (Enc.mut_enc _ _ _ _ (g_1.2 : List (Int × Int)))), (keep_mut (keep_clear (s := s) (pk := [4]) h11 rfl rfl) rfl), (keep_mut (keep_clear (s := s) (pk := [4]) h12 rfl rfl) rfl)⟩ ?_
      rintro s ⟨h1, h2, h3, h4, h10, h11, h12⟩
      refine .nsq ?_
      refine .seq ?_
      refine run_reg ?_
      refine e_end ?_
      refine g_v1 (t := 4) (u := (.ref (.bx 4) 0 [] (.agg [(.int .i64 e_16.1), (.int .i64 e_16.2)]))) (.ref (.bx 4) 0 [0] (.int .i64 e_16.1)) h4 rfl rfl ?_
      refine g_v1 (t := 17) (u := (.ref (.bx 4) 0 [0] (.int .i64 e_16.1))) (.int .i64 e_16.1) rfl rfl rfl ?_
      refine g_v1 (t := 18) (u := (.int .i64 e_16.1)) (.bool (decide (e_16.1 < 0))) rfl rfl rfl ?_
      refine g_v1 (t := 19) (u := (.bool (decide (e_16.1 < 0)))) (.bool (decide (e_16.1 < 0))) rfl rfl rfl ?_
      refine split_on (c := decide (e_16.1 < 0)) h (fun hg4 h => ?_) (fun hg4 h => ?_)
      · refine g_no (Eq.trans (b := .bool (decide (e_16.1 < 0))) rfl (congrArg V.bool hg4)) ?_
        refine g_no (Eq.trans (b := .bool (decide (e_16.1 < 0))) rfl (congrArg V.bool hg4)) ?_
        refine g_no (Eq.trans (b := .bool (decide (e_16.1 < 0))) rfl (congrArg V.bool hg4)) ?_
        refine g_no (Eq.trans (b := .bool (decide (e_16.1 < 0))) rfl (congrArg V.bool hg4)) ?_
        refine g_no (Eq.trans (b := .bool (decide (e_16.1 < 0))) rfl (congrArg V.bool hg4)) ?_
        refine g_v2 (t1 := 20) (t2 := 25) (u1 := (.bool true)) (u2 := (.tup [])) (.bool true) (Eq.trans (b := .bool (decide (e_16.1 < 0))) rfl (congrArg V.bool hg4)) rfl rfl rfl ?_
        refine g_v1 (t := 26) (u := (.bool true)) (.bool true) rfl rfl rfl ?_
        refine g_no rfl ?_
        refine g_no rfl ?_
        refine g_no rfl ?_
        refine g_no rfl ?_
        refine g_no rfl ?_
        refine g_v2 (t1 := 27) (t2 := 32) (u1 := (.bool true)) (u2 := (.tup [])) (.bool true) rfl rfl rfl rfl ?_
        refine g_v1 (t := 33) (u := (.bool true)) (.bool true) rfl rfl rfl ?_
        refine g_no rfl ?_
        refine g_no rfl ?_
        refine g_no rfl ?_
        refine g_skip rfl ?_
        refine g_skip rfl ?_
        refine g_skip rfl ?_
        refine g_skip rfl ?_
        refine g_skip rfl ?_
        refine g_skip rfl ?_
        refine g_skip rfl ?_
        refine g_skip rfl ?_
        refine g_skip rfl ?_
        refine g_no rfl ?_
        refine g_v2 (t1 := 34) (t2 := 47) (u1 := (.bool true)) (u2 := (.tup [])) (.bool true) rfl rfl rfl rfl ?_
        refine g_end ?_
        refine e_end ?_
        refine renew [(1, (.ref (.bx 1) 0 [] (.agg [(.int .i64 g_1.1), (Enc.enc (g_1.2 : List (Int × Int)))]))), (2, (.bool false)), (10, (Enc.enc (g_1.2 : List (Int × Int)))), (11, (.int .i64 (g_1.2.length : Int))), (12, (.int .i64 t12_9)), (48, (.bool true))] ⟨h1, h2, h10, h11, h12, rfl⟩ ?_
        rintro s ⟨h1, h2, h10, h11, h12, h48⟩
        exact t_f50_j1 H g_1 t12_9 (i_IsGraph_l1 F g_1 k) ih true _ ⟨h1, h2, h10, h11, h12, h48⟩ h
      · refine g_yes (Eq.trans (b := .bool (decide (e_16.1 < 0))) rfl (congrArg V.bool hg4)) (g_v1 (t := 4) (u := (.ref (.bx 4) 0 [] (.agg [(.int .i64 e_16.1), (.int .i64 e_16.2)]))) (.ref (.bx 4) 0 [0] (.int .i64 e_16.1)) h4 rfl rfl ?_)
        refine g_yes (Eq.trans (b := .bool (decide (e_16.1 < 0))) rfl (congrArg V.bool hg4)) (g_v1 (t := 21) (u := (.ref (.bx 4) 0 [0] (.int .i64 e_16.1))) (.int .i64 e_16.1) rfl rfl rfl ?_)
        refine g_yes (Eq.trans (b := .bool (decide (e_16.1 < 0))) rfl (congrArg V.bool hg4)) (g_v1 (t := 4) (u := (.ref (.bx 4) 0 [] (.agg [(.int .i64 e_16.1), (.int .i64 e_16.2)]))) (.ref (.bx 4) 0 [1] (.int .i64 e_16.2)) h4 rfl rfl ?_)
        refine g_yes (Eq.trans (b := .bool (decide (e_16.1 < 0))) rfl (congrArg V.bool hg4)) (g_v1 (t := 23) (u := (.ref (.bx 4) 0 [1] (.int .i64 e_16.2))) (.int .i64 e_16.2) rfl rfl rfl ?_)
        refine g_yes (Eq.trans (b := .bool (decide (e_16.1 < 0))) rfl (congrArg V.bool hg4)) (g_v2 (t1 := 22) (t2 := 24) (u1 := (.int .i64 e_16.1)) (u2 := (.int .i64 e_16.2)) (.bool (decide (e_16.1 ≥ e_16.2))) rfl rfl rfl rfl ?_)
        refine g_v2 (t1 := 20) (t2 := 25) (u1 := (.bool false)) (u2 := (.bool (decide (e_16.1 ≥ e_16.2)))) (.bool (decide (e_16.1 ≥ e_16.2))) (Eq.trans (b := .bool (decide (e_16.1 < 0))) rfl (congrArg V.bool hg4)) rfl rfl rfl ?_
        refine g_v1 (t := 26) (u := (.bool (decide (e_16.1 ≥ e_16.2)))) (.bool (decide (e_16.1 ≥ e_16.2))) rfl rfl rfl ?_
        refine split_on (c := decide (e_16.1 ≥ e_16.2)) h (fun hg11 h => ?_) (fun hg11 h => ?_)
        · refine g_no (Eq.trans (b := .bool (decide (e_16.1 ≥ e_16.2))) rfl (congrArg V.bool hg11)) ?_
          refine g_no (Eq.trans (b := .bool (decide (e_16.1 ≥ e_16.2))) rfl (congrArg V.bool hg11)) ?_
          refine g_no (Eq.trans (b := .bool (decide (e_16.1 ≥ e_16.2))) rfl (congrArg V.bool hg11)) ?_
          refine g_no (Eq.trans (b := .bool (decide (e_16.1 ≥ e_16.2))) rfl (congrArg V.bool hg11)) ?_
          refine g_no (Eq.trans (b := .bool (decide (e_16.1 ≥ e_16.2))) rfl (congrArg V.bool hg11)) ?_
          refine g_v2 (t1 := 27) (t2 := 32) (u1 := (.bool true)) (u2 := (.tup [])) (.bool true) (Eq.trans (b := .bool (decide (e_16.1 ≥ e_16.2))) rfl (congrArg V.bool hg11)) rfl rfl rfl ?_
          refine g_v1 (t := 33) (u := (.bool true)) (.bool true) rfl rfl rfl ?_
          refine g_no rfl ?_
          refine g_no rfl ?_
          refine g_no rfl ?_
          refine g_skip rfl ?_
          refine g_skip rfl ?_
          refine g_skip rfl ?_
          refine g_skip rfl ?_
          refine g_skip rfl ?_
          refine g_skip rfl ?_
          refine g_skip rfl ?_
          refine g_skip rfl ?_
          refine g_skip rfl ?_
          refine g_no rfl ?_
          refine g_v2 (t1 := 34) (t2 := 47) (u1 := (.bool true)) (u2 := (.tup [])) (.bool true) rfl rfl rfl rfl ?_
          refine g_end ?_
          refine e_end ?_
          refine renew [(1, (.ref (.bx 1) 0 [] (.agg [(.int .i64 g_1.1), (Enc.enc (g_1.2 : List (Int × Int)))]))), (2, (.bool false)), (10, (Enc.enc (g_1.2 : List (Int × Int)))), (11, (.int .i64 (g_1.2.length : Int))), (12, (.int .i64 t12_9)), (48, (.bool true))] ⟨h1, h2, h10, h11, h12, rfl⟩ ?_
          rintro s ⟨h1, h2, h10, h11, h12, h48⟩
          exact t_f50_j1 H g_1 t12_9 (i_IsGraph_l1 F g_1 k) ih true _ ⟨h1, h2, h10, h11, h12, h48⟩ h
        · refine g_yes (Eq.trans (b := .bool (decide (e_16.1 ≥ e_16.2))) rfl (congrArg V.bool hg11)) (g_v1 (t := 4) (u := (.ref (.bx 4) 0 [] (.agg [(.int .i64 e_16.1), (.int .i64 e_16.2)]))) (.ref (.bx 4) 0 [1] (.int .i64 e_16.2)) h4 rfl rfl ?_)
          refine g_yes (Eq.trans (b := .bool (decide (e_16.1 ≥ e_16.2))) rfl (congrArg V.bool hg11)) (g_v1 (t := 28) (u := (.ref (.bx 4) 0 [1] (.int .i64 e_16.2))) (.int .i64 e_16.2) rfl rfl rfl ?_)
          refine g_yes (Eq.trans (b := .bool (decide (e_16.1 ≥ e_16.2))) rfl (congrArg V.bool hg11)) (g_v1 (t := 1) (u := (.ref (.bx 1) 0 [] (.agg [(.int .i64 g_1.1), (Enc.enc (g_1.2 : List (Int × Int)))]))) (.ref (.bx 1) 0 [0] (.int .i64 g_1.1)) h1 rfl rfl ?_)
          refine g_yes (Eq.trans (b := .bool (decide (e_16.1 ≥ e_16.2))) rfl (congrArg V.bool hg11)) (g_v1 (t := 30) (u := (.ref (.bx 1) 0 [0] (.int .i64 g_1.1))) (.int .i64 g_1.1) rfl rfl rfl ?_)
          refine g_yes (Eq.trans (b := .bool (decide (e_16.1 ≥ e_16.2))) rfl (congrArg V.bool hg11)) (g_v2 (t1 := 29) (t2 := 31) (u1 := (.int .i64 e_16.2)) (u2 := (.int .i64 g_1.1)) (.bool (decide (e_16.2 ≥ g_1.1))) rfl rfl rfl rfl ?_)
          refine g_v2 (t1 := 27) (t2 := 32) (u1 := (.bool false)) (u2 := (.bool (decide (e_16.2 ≥ g_1.1)))) (.bool (decide (e_16.2 ≥ g_1.1))) (Eq.trans (b := .bool (decide (e_16.1 ≥ e_16.2))) rfl (congrArg V.bool hg11)) rfl rfl rfl ?_
          refine g_v1 (t := 33) (u := (.bool (decide (e_16.2 ≥ g_1.1)))) (.bool (decide (e_16.2 ≥ g_1.1))) rfl rfl rfl ?_
          refine split_on (c := decide (e_16.2 ≥ g_1.1)) h (fun hg18 h => ?_) (fun hg18 h => ?_)
          · refine g_no (Eq.trans (b := .bool (decide (e_16.2 ≥ g_1.1))) rfl (congrArg V.bool hg18)) ?_
            refine g_no (Eq.trans (b := .bool (decide (e_16.2 ≥ g_1.1))) rfl (congrArg V.bool hg18)) ?_
            refine g_no (Eq.trans (b := .bool (decide (e_16.2 ≥ g_1.1))) rfl (congrArg V.bool hg18)) ?_
            refine g_skip rfl ?_
            refine g_skip rfl ?_
            refine g_skip rfl ?_
            refine g_skip rfl ?_
            refine g_skip rfl ?_
            refine g_skip rfl ?_
            refine g_skip rfl ?_
            refine g_skip rfl ?_
            refine g_skip rfl ?_
            refine g_no (Eq.trans (b := .bool (decide (e_16.2 ≥ g_1.1))) rfl (congrArg V.bool hg18)) ?_
            refine g_v2 (t1 := 34) (t2 := 47) (u1 := (.bool true)) (u2 := (.tup [])) (.bool true) (Eq.trans (b := .bool (decide (e_16.2 ≥ g_1.1))) rfl (congrArg V.bool hg18)) rfl rfl rfl ?_
            refine g_end ?_
            refine e_end ?_
            refine renew [(1, (.ref (.bx 1) 0 [] (.agg [(.int .i64 g_1.1), (Enc.enc (g_1.2 : List (Int × Int)))]))), (2, (.bool false)), (10, (Enc.enc (g_1.2 : List (Int × Int)))), (11, (.int .i64 (g_1.2.length : Int))), (12, (.int .i64 t12_9)), (48, (.bool true))] ⟨h1, h2, h10, h11, h12, rfl⟩ ?_
            rintro s ⟨h1, h2, h10, h11, h12, h48⟩
            exact t_f50_j1 H g_1 t12_9 (i_IsGraph_l1 F g_1 k) ih true _ ⟨h1, h2, h10, h11, h12, h48⟩ h
          · refine g_yes (Eq.trans (b := .bool (decide (e_16.2 ≥ g_1.1))) rfl (congrArg V.bool hg18)) (g_v1 (t := 3) (u := (.int .i64 t12_9)) (.int .i64 t12_9) h3 rfl rfl ?_)
            refine g_yes (Eq.trans (b := .bool (decide (e_16.2 ≥ g_1.1))) rfl (congrArg V.bool hg18)) (g_v1 (t := 35) (u := (.int .i64 t12_9)) (.bool (decide (t12_9 > 0))) rfl rfl rfl ?_)
            refine g_yes (Eq.trans (b := .bool (decide (e_16.2 ≥ g_1.1))) rfl (congrArg V.bool hg18)) (g_v1 (t := 36) (u := (.bool (decide (t12_9 > 0)))) (.bool (decide (t12_9 > 0))) rfl rfl rfl ?_)
            refine split_on (c := decide (t12_9 > 0)) h (fun hg21 h => ?_) (fun hg21 h => ?_)
            · refine g_yes (Eq.trans (b := .bool (decide (t12_9 > 0))) rfl (congrArg V.bool hg21)) (g_v1 (t := 1) (u := (.ref (.bx 1) 0 [] (.agg [(.int .i64 g_1.1), (Enc.enc (g_1.2 : List (Int × Int)))]))) (.ref (.bx 1) 0 [1] (Enc.enc (g_1.2 : List (Int × Int)))) h1 rfl rfl ?_)
              refine g_yes (Eq.trans (b := .bool (decide (t12_9 > 0))) rfl (congrArg V.bool hg21)) (g_v1 (t := 38) (u := (.ref (.bx 1) 0 [1] (Enc.enc (g_1.2 : List (Int × Int))))) (Enc.enc (g_1.2 : List (Int × Int))) rfl rfl rfl ?_)
              refine g_yes (Eq.trans (b := .bool (decide (t12_9 > 0))) rfl (congrArg V.bool hg21)) (g_v1 (t := 3) (u := (.int .i64 t12_9)) (.int .i64 t12_9) h3 rfl rfl ?_)
              refine g_yes (Eq.trans (b := .bool (decide (t12_9 > 0))) rfl (congrArg V.bool hg21)) (g_v1 (t := 40) (u := (.int .i64 t12_9)) (.int .i64 (w64 (t12_9 - 1))) rfl rfl rfl ?_)
              obtain ⟨e_20, E_e_20, h⟩ := bind_some h
              refine g_yes (Eq.trans (b := .bool (decide (t12_9 > 0))) rfl (congrArg V.bool hg21)) (g_v (.ref .sh 0 [] (.agg [(.int .i64 e_20.1), (.int .i64 e_20.2)])) (ev_idx (t := .sh) (lo := 0) (xs := g_1.2) rfl rfl E_e_20 rfl rfl) ?_)
              refine g_yes (Eq.trans (b := .bool (decide (t12_9 > 0))) rfl (congrArg V.bool hg21)) (g_v1 (t := 42) (u := (.ref .sh 0 [] (.agg [(.int .i64 e_20.1), (.int .i64 e_20.2)]))) (Enc.enc ([e_20.1, e_20.2] : List Int)) rfl rfl rfl ?_)
              refine g_yes (Eq.trans (b := .bool (decide (t12_9 > 0))) rfl (congrArg V.bool hg21)) (g_v1 (t := 4) (u := (.ref (.bx 4) 0 [] (.agg [(.int .i64 e_16.1), (.int .i64 e_16.2)]))) (encO (.bx 4) (.of ([e_16.1, e_16.2] : List Int))) h4 rfl rfl ?_)
              obtain ⟨r_21, E_r_21, h⟩ := bind_some h
              refine g_yes (Eq.trans (b := .bool (decide (t12_9 > 0))) rfl (congrArg V.bool hg21)) (g_call (m := 0) (al := false) (r := (Enc.enc (r_21 : Int))) [Enc.enc ([e_20.1, e_20.2] : (List Int)), Enc.enc ([e_16.1, e_16.2] : (List Int))] (ta_cons (v := (Enc.enc ([e_20.1, e_20.2] : List Int))) rfl rfl (Enc.erase_enc ([e_20.1, e_20.2] : (List Int))) (ta_cons (v := (encO (.bx 4) (.of ([e_16.1, e_16.2] : List Int)))) rfl rfl (erase_encO (o := .of [e_16.1, e_16.2])) ta_nil)) (H.c100 _ _ _ E_r_21) H.g100 rfl rfl rfl rfl ?_)
              refine g_yes (Eq.trans (b := .bool (decide (t12_9 > 0))) rfl (congrArg V.bool hg21)) (g_v1 (t := 45) (u := (.int .i64 r_21)) (.bool (decide (r_21 ≥ 0))) rfl rfl rfl ?_)
              refine g_yes (Eq.trans (b := .bool (decide (e_16.2 ≥ g_1.1))) rfl (congrArg V.bool hg18)) (g_v2 (t1 := 37) (t2 := 46) (u1 := (.bool true)) (u2 := (.bool (decide (r_21 ≥ 0)))) (.bool (decide (r_21 ≥ 0))) (Eq.trans (b := .bool (decide (t12_9 > 0))) rfl (congrArg V.bool hg21)) rfl rfl rfl ?_)
              refine g_v2 (t1 := 34) (t2 := 47) (u1 := (.bool false)) (u2 := (.bool (decide (r_21 ≥ 0)))) (.bool (decide (r_21 ≥ 0))) (Eq.trans (b := .bool (decide (e_16.2 ≥ g_1.1))) rfl (congrArg V.bool hg18)) rfl rfl rfl ?_
              refine g_end ?_
              refine e_end ?_
              refine renew [(1, (.ref (.bx 1) 0 [] (.agg [(.int .i64 g_1.1), (Enc.enc (g_1.2 : List (Int × Int)))]))), (2, (.bool false)), (10, (Enc.enc (g_1.2 : List (Int × Int)))), (11, (.int .i64 (g_1.2.length : Int))), (12, (.int .i64 t12_9)), (48, (.bool (decide (r_21 ≥ 0))))] ⟨h1, h2, h10, h11, h12, rfl⟩ ?_
              rintro s ⟨h1, h2, h10, h11, h12, h48⟩
              exact t_f50_j1 H g_1 t12_9 (i_IsGraph_l1 F g_1 k) ih (decide (r_21 ≥ 0)) _ ⟨h1, h2, h10, h11, h12, h48⟩ h
            · refine g_no (Eq.trans (b := .bool (decide (t12_9 > 0))) rfl (congrArg V.bool hg21)) ?_
              refine g_no (Eq.trans (b := .bool (decide (t12_9 > 0))) rfl (congrArg V.bool hg21)) ?_
              refine g_no (Eq.trans (b := .bool (decide (t12_9 > 0))) rfl (congrArg V.bool hg21)) ?_
              refine g_no (Eq.trans (b := .bool (decide (t12_9 > 0))) rfl (congrArg V.bool hg21)) ?_
              refine g_no (Eq.trans (b := .bool (decide (t12_9 > 0))) rfl (congrArg V.bool hg21)) ?_
              refine g_no (Eq.trans (b := .bool (decide (t12_9 > 0))) rfl (congrArg V.bool hg21)) ?_
              refine g_no (Eq.trans (b := .bool (decide (t12_9 > 0))) rfl (congrArg V.bool hg21)) ?_
              refine g_no (Eq.trans (b := .bool (decide (t12_9 > 0))) rfl (congrArg V.bool hg21)) ?_
              refine g_no (Eq.trans (b := .bool (decide (t12_9 > 0))) rfl (congrArg V.bool hg21)) ?_
              refine g_yes (Eq.trans (b := .bool (decide (e_16.2 ≥ g_1.1))) rfl (congrArg V.bool hg18)) (g_v2 (t1 := 37) (t2 := 46) (u1 := (.bool false)) (u2 := (.tup [])) (.bool false) (Eq.trans (b := .bool (decide (t12_9 > 0))) rfl (congrArg V.bool hg21)) rfl rfl rfl ?_)
              refine g_v2 (t1 := 34) (t2 := 47) (u1 := (.bool false)) (u2 := (.bool false)) (.bool false) (Eq.trans (b := .bool (decide (e_16.2 ≥ g_1.1))) rfl (congrArg V.bool hg18)) rfl rfl rfl ?_
              refine g_end ?_
              refine e_end ?_
              refine renew [(1, (.ref (.bx 1) 0 [] (.agg [(.int .i64 g_1.1), (Enc.enc (g_1.2 : List (Int × Int)))]))), (2, (.bool false)), (10, (Enc.enc (g_1.2 : List (Int × Int)))), (11, (.int .i64 (g_1.2.length : Int))), (12, (.int .i64 t12_9)), (48, (.bool false))] ⟨h1, h2, h10, h11, h12, rfl⟩ ?_
              rintro s ⟨h1, h2, h10, h11, h12, h48⟩
              exact t_f50_j1 H g_1 t12_9 (i_IsGraph_l1 F g_1 k) ih false _ ⟨h1, h2, h10, h11, h12, h48⟩ h
    · refine .exit ?_
      refine .esq ?_
      refine .elp ?_
      refine .ebk ?_
      refine .nsq ?_
      refine .seq ?_
      refine run_reg ?_
      refine e_end ?_
      refine g_v0 (.bool true) rfl rfl ?_
      refine g_end ?_
      refine e_end ?_
      refine renew [(2, (.bool true))] rfl ?_
      rintro s h2
      refine .nsq ?_
      refine .ret ?_
      have hr := Option.some.inj h
      subst hr
      exact rrA (res_tmp h2) rfl
def i_IsGraph (F : Nat) (g_1 : (Int × (List (Int × Int)))) : Option Bool :=
  (i_within F g_1.1 0 8).bind fun r_2 =>
  bif (!r_2) then
    some false
  else
    i_IsGraph_l1 F g_1 F 0
theorem t50 (H : H50 D σ F) (g_1 : (Int × (List (Int × Int)))) (s : Nat → V) (hs : Facts [(0, (.agg [(.int .i64 g_1.1), (Enc.enc (g_1.2 : List (Int × Int)))]))] s) (h : i_IsGraph F g_1 = some r) : Run D σ (R50 r) (.run A50 []) s := by
  unfold i_IsGraph at h
  have h0 := hs
  refine .seq ?_
  refine run_reg ?_
  refine e_clr ?_
  refine e_end ?_
  refine g_box (.agg [(.int .i64 g_1.1), (Enc.enc (g_1.2 : List (Int × Int)))]) (rd_of (keep_clear (s := s) (pk := [1]) h0 rfl (map_agg (maps_cons rfl (maps_cons (Enc.map_enc _ (g_1.2 : List (Int × Int))) maps_nil)))) rfl) (gone_clear (s := s) (pk := [1]) (t := 1) rfl) rfl ?_
  refine g_v0 (.bool false) rfl rfl ?_
  refine g_end ?_
  refine e_end ?_
  refine renew [(1, (.ref (.bx 1) 0 [] (.agg [(.int .i64 g_1.1), (Enc.enc (g_1.2 : List (Int × Int)))]))), (2, (.bool false))] ⟨rfl, rfl⟩ ?_
  rintro s ⟨h1, h2⟩
  refine .nsq ?_
  refine .seq ?_
  refine .seq ?_
  refine run_reg ?_
  refine e_end ?_
  refine g_v1 (t := 1) (u := (.ref (.bx 1) 0 [] (.agg [(.int .i64 g_1.1), (Enc.enc (g_1.2 : List (Int × Int)))]))) (.ref (.bx 1) 0 [0] (.int .i64 g_1.1)) h1 rfl rfl ?_
  refine g_v1 (t := 5) (u := (.ref (.bx 1) 0 [0] (.int .i64 g_1.1))) (.int .i64 g_1.1) rfl rfl rfl ?_
  obtain ⟨r_2, E_r_2, h⟩ := bind_some h
  refine g_call (m := 0) (al := false) (r := (Enc.enc (r_2 : Bool))) [Enc.enc (g_1.1 : Int), Enc.enc (0 : Int), Enc.enc (8 : Int)] (ta_cons (v := (.int .i64 g_1.1)) rfl rfl rfl (ta_cons (v := (.int .i64 0)) rfl rfl rfl (ta_cons (v := (.int .i64 8)) rfl rfl rfl ta_nil))) (H.c66 _ _ _ _ E_r_2) H.g66 rfl rfl rfl rfl ?_
  refine g_v1 (t := 7) (u := (.bool r_2)) (.bool (!r_2)) rfl rfl rfl ?_
  refine g_end ?_
  refine e_end ?_
  refine renew [(1, (.ref (.bx 1) 0 [] (.agg [(.int .i64 g_1.1), (Enc.enc (g_1.2 : List (Int × Int)))]))), (2, (.bool false)), (8, (.bool (!r_2)))] ⟨h1, h2, rfl⟩ ?_
  rintro s ⟨h1, h2, h8⟩
  refine .nsq ?_
  refine run_cond (t := (!r_2)) h8 h (fun h => ?_) (fun h => ?_)
  · refine .seq ?_
    refine run_reg ?_
    refine e_end ?_
    refine g_v0 (.bool false) rfl rfl ?_
    refine g_end ?_
    refine e_end ?_
    refine renew [(1, (.ref (.bx 1) 0 [] (.agg [(.int .i64 g_1.1), (Enc.enc (g_1.2 : List (Int × Int)))]))), (2, (.bool false))] ⟨h1, rfl⟩ ?_
    rintro s ⟨h1, h2⟩
    refine .nsq ?_
    refine .ret ?_
    have hr := Option.some.inj h
    subst hr
    exact rrA (res_tmp h2) rfl
  · refine .skip ?_
    refine .nsq ?_
    refine .seq ?_
    refine .seq ?_
    refine run_reg ?_
    refine e_end ?_
    refine g_v1 (t := 1) (u := (.ref (.bx 1) 0 [] (.agg [(.int .i64 g_1.1), (Enc.enc (g_1.2 : List (Int × Int)))]))) (.ref (.bx 1) 0 [1] (Enc.enc (g_1.2 : List (Int × Int)))) h1 rfl rfl ?_
    refine g_v1 (t := 9) (u := (.ref (.bx 1) 0 [1] (Enc.enc (g_1.2 : List (Int × Int))))) (Enc.enc (g_1.2 : List (Int × Int))) rfl rfl rfl ?_
    refine g_v (.int .i64 (g_1.2.length : Int)) (ev_len (xs := g_1.2) rfl) ?_
    refine g_v0 (.int .i64 0) rfl rfl ?_
    refine g_end ?_
    refine e_end ?_
    refine renew [(1, (.ref (.bx 1) 0 [] (.agg [(.int .i64 g_1.1), (Enc.enc (g_1.2 : List (Int × Int)))]))), (2, (.bool false)), (10, (Enc.enc (g_1.2 : List (Int × Int)))), (11, (.int .i64 (g_1.2.length : Int))), (12, (.int .i64 0))] ⟨h1, h2, rfl, rfl, rfl⟩ ?_
    rintro s ⟨h1, h2, h10, h11, h12⟩
    refine .nsq ?_
    refine .block ?_
    refine .loop ?_
    exact t_f50_l1 H g_1 F 0 _ ⟨h1, h2, h10, h11, h12⟩ h
end
def e50 (F : Nat) : Ent := ⟨50, dn1 (i_IsGraph F) (fun (r : Bool) => (Enc.enc (r : Bool))), 0, false⟩
theorem o50 {D : Den} {σ : Sig} {F : Nat} (hF : Fits2 Try.prog D σ) (H : H50 D σ F) : (e50 F).Ok Try.prog := by
  refine ⟨fun args r h => ?_, ⟨Try.f50, Try.func50, rfl, rfl⟩⟩
  obtain ⟨x0, y, rfl, hy, rfl⟩ := dn1_open h
  exact contract_run hF (by kernel_rfl) Try.func50 rfl c50 (show 1 ≤ Try.f50.ntmps by decide) (t50 H x0 _ rfl hy)
/- loop.example/g01109/impl.netOf -/
def A55_5 : AC := (AC.reg [] [(I.mk (some 28) none false (X.v (A.fld (O.t 3) 0 0))), (I.mk (some 29) none false (X.v (A.load Sh.p (O.t 28)))), (I.mk (some 30) none false (X.v (A.idxA (O.t 5) (O.k (V.int IntKind.i64 (Int.ofNat 1))) 2 1))), (I.mk (some 31) none false (X.v (A.load Sh.s (O.t 30)))), (I.mk (some 32) none false (X.v (A.idx (O.t 29) (O.t 31) 1))), (I.mk (some 33) none false (X.v (A.load Sh.s (O.t 32)))), (I.mk (some 34) none false (X.v (A.idxA (O.t 5) (O.k (V.int IntKind.i64 (Int.ofNat 0))) 2 1))), (I.mk (some 35) none false (X.v (A.load Sh.s (O.t 34)))), (I.mk (some 36) none false (X.v (A.bin BinOp.shl (O.k (V.int IntKind.i64 (Int.ofNat 1))) (O.t 35)))), (I.mk (some 37) none false (X.v (A.bin BinOp.or (O.t 33) (O.t 36)))), (I.mk (some 38) none false (X.v (A.idx (O.t 29) (O.t 31) 1))), (I.mk none none false (X.store Sh.s (O.t 38) (O.t 37)))] [])
def A55_4 : AC := (AC.seq (AC.reg [] [(I.mk (some 17) none false (X.v (A.fld (O.t 3) 0 0))), (I.mk (some 18) none false (X.v (A.load Sh.p (O.t 17)))), (I.mk (some 19) none false (X.v (A.idxA (O.t 5) (O.k (V.int IntKind.i64 (Int.ofNat 0))) 2 1))), (I.mk (some 20) none false (X.v (A.load Sh.s (O.t 19)))), (I.mk (some 21) none false (X.v (A.idx (O.t 18) (O.t 20) 1))), (I.mk (some 22) none false (X.v (A.load Sh.s (O.t 21)))), (I.mk (some 23) none false (X.v (A.idxA (O.t 5) (O.k (V.int IntKind.i64 (Int.ofNat 1))) 2 1))), (I.mk (some 24) none false (X.v (A.load Sh.s (O.t 23)))), (I.mk (some 25) none false (X.v (A.bin BinOp.shl (O.k (V.int IntKind.i64 (Int.ofNat 1))) (O.t 24)))), (I.mk (some 26) none false (X.v (A.bin BinOp.or (O.t 22) (O.t 25)))), (I.mk (some 27) none false (X.v (A.idx (O.t 18) (O.t 20) 1))), (I.mk none none false (X.store Sh.s (O.t 27) (O.t 26)))] []) A55_5)
def A55_6 : AC := (AC.reg [] [(I.mk (some 39) none false (X.v (A.bin BinOp.add (O.t 13) (O.k (V.int IntKind.i64 (Int.ofNat 1)))))), (I.mk (some 13) none false (X.v (A.mov (O.t 39))))] [])
def A55_3 : AC := (AC.seq (AC.block 1 (AC.seq (AC.reg [.clr [5]] [(I.mk (some 15) none false (X.v (A.idx (O.t 11) (O.t 13) 2))), (I.mk (some 16) none false (X.v (A.load (Sh.ag [Sh.s, Sh.s]) (O.t 15)))), (I.mk (some 5) none false (X.alloc (V.agg [(V.int IntKind.i64 (Int.ofNat 0)), (V.int IntKind.i64 (Int.ofNat 0))]))), (I.mk none none false (X.store (Sh.ag [Sh.s, Sh.s]) (O.t 5) (O.t 16)))] []) A55_4)) A55_6)
def A55_2 : AC := (AC.seq (AC.cond (O.t 14) AC.skip (AC.exit 0)) A55_3)
def A55_1 : AC := (AC.seq (AC.reg [] [(I.mk (some 14) none false (X.v (A.bin BinOp.lss (O.t 13) (O.t 12))))] []) A55_2)
def A55_7 : AC := (AC.seq (AC.reg [] [(I.mk (some 40) none false (X.v (A.load (Sh.ag [Sh.p]) (O.t 3)))), (I.mk none none false (X.store (Sh.ag [Sh.p]) (O.t 2) (O.t 40)))] []) AC.ret)
def A55_10 : AC := (AC.block 0 (AC.loop A55_1))
def A55_9 : AC := (AC.seq (AC.seq (AC.reg [] [(I.mk (some 10) none false (X.v (A.fld (O.t 1) 1 1))), (I.mk (some 11) none false (X.v (A.load Sh.p (O.t 10)))), (I.mk (some 12) none false (X.v (A.len (O.t 11)))), (I.mk (some 13) none false (X.v (A.mov (O.k (V.int IntKind.i64 (Int.ofNat 0))))))] []) A55_10) A55_7)
def A55_8 : AC := (AC.seq (AC.reg [.clr [8, 3]] [(I.mk (some 6) none false (X.v (A.fld (O.t 1) 0 0))), (I.mk (some 7) none false (X.v (A.load Sh.s (O.t 6)))), (I.mk (some 8) none false (X.mk (O.t 7) (V.int IntKind.i64 (Int.ofNat 0)))), (I.mk (some 9) none false (X.v (A.bld (V.agg [(V.sl Tok.nl Sh.s 0 [])]) [(0, 0, (O.t 8))]))), (I.mk (some 3) none false (X.alloc (V.agg [(V.sl Tok.nl Sh.s 0 [])]))), (I.mk none none false (X.store (Sh.ag [Sh.p]) (O.t 3) (O.t 9)))] []) A55_9)
def A55 : AC := (AC.seq (AC.reg [.clr [1, 2]] [(I.mk (some 1) none false (X.box (O.t 0))), (I.mk (some 2) none false (X.alloc (V.agg [(V.sl Tok.nl Sh.s 0 [])])))] []) A55_8)
def an55 : List An := [{ id := 0, pre := [.clr [1, 2]], ep := [], lin := [], sp := [] }, { id := 1, pre := [.clr [8, 3]], ep := [], lin := [], sp := [] }, { id := 4, pre := [.clr [5]], ep := [], lin := [], sp := [] }]
theorem c55 : cC Try.prog Try.f55.ntmps an55 (Try.f55.body.getD .skip) = some A55 := by kernel_rfl
structure H55 (D : Den) (σ : Sig) (F : Nat) : Prop where
  mk ::
abbrev R55 (r : (S1 (List Int))) : (Nat → V) → Prop := RR Try.prog [.cell 2 56] 0 true (Enc.enc (r : (S1 (List Int))))
section
variable {D : Den} {σ : Sig} {F : Nat} {r : (S1 (List Int))}
def i_netOf_l1 (F : Nat) (g_1 : (Int × (List (Int × Int))))  : Nat → (List Int) → Int → Option (S1 (List Int))
  | 0, _, _ => none
  | k + 1, w_10, t13_11 =>
    bif decide (t13_11 < (g_1.2.length : Int)) then
      (idx g_1.2 t13_11).bind fun e_19 =>
      (idx w_10 e_19.1).bind fun e_20 =>
      (shlI .i64 1 e_19.2).bind fun q_21 =>
      (idx w_10 e_19.1).bind fun e_22 =>
      (idx (w_10.set e_19.1.toNat (ior .i64 e_20 q_21)) e_19.2).bind fun e_23 =>
      (shlI .i64 1 e_19.1).bind fun q_24 =>
      (idx (w_10.set e_19.1.toNat (ior .i64 e_20 q_21)) e_19.2).bind fun e_25 =>
      (i_netOf_l1 F g_1 k) ((w_10.set e_19.1.toNat (ior .i64 e_20 q_21)).set e_19.2.toNat (ior .i64 e_23 q_24)) (w64 (t13_11 + 1))
    else
      some (S1.mk w_10)
theorem t_f55_l1 (H : H55 D σ F) (g_1 : (Int × (List (Int × Int))))  : ∀ (k : Nat) (w_10 : (List Int)) (t13_11 : Int) (s : Nat → V), Facts [(2, (.ref (.bx 2) 0 [] (.agg [(.sl .nl (Enc.shp Int) 0 [])]))), (3, (.ref (.bx 3) 0 [] (.agg [(encO (.at 8 []) (.of (w_10 : List Int)))]))), (11, (Enc.enc (g_1.2 : List (Int × Int)))), (12, (.int .i64 (g_1.2.length : Int))), (13, (.int .i64 t13_11))] s → i_netOf_l1 F g_1 k w_10 t13_11 = some r → Run D σ (R55 r) (.run A55_1 [.lp A55_1, .bk 0, .sq A55_7]) s := by
  intro k
  induction k with
  | zero => intro w_10 t13_11 s _ h; exact nomatch (h : (none : Option _) = some r)
  | succ k ih =>
    intro w_10 t13_11 s hs h
    rw [i_netOf_l1] at h
    obtain ⟨h2, h3, h11, h12, h13⟩ := hs
    refine .seq ?_
    refine run_reg ?_
    refine e_end ?_
    refine g_v2 (t1 := 13) (t2 := 12) (u1 := (.int .i64 t13_11)) (u2 := (.int .i64 (g_1.2.length : Int))) (.bool (decide (t13_11 < (g_1.2.length : Int)))) h13 h12 rfl rfl ?_
    refine g_end ?_
    refine e_end ?_
    refine renew [(2, (.ref (.bx 2) 0 [] (.agg [(.sl .nl (Enc.shp Int) 0 [])]))), (3, (.ref (.bx 3) 0 [] (.agg [(encO (.at 8 []) (.of (w_10 : List Int)))]))), (11, (Enc.enc (g_1.2 : List (Int × Int)))), (12, (.int .i64 (g_1.2.length : Int))), (13, (.int .i64 t13_11)), (14, (.bool (decide (t13_11 < (g_1.2.length : Int)))))] ⟨h2, h3, h11, h12, h13, rfl⟩ ?_
    rintro s ⟨h2, h3, h11, h12, h13, h14⟩
    refine .nsq ?_
    refine .seq ?_
    refine run_cond (t := decide (t13_11 < (g_1.2.length : Int))) h14 h (fun h => ?_) (fun h => ?_)
    · refine .skip ?_
      refine .nsq ?_
      refine .seq ?_
      refine .block ?_
      refine .seq ?_
      refine run_reg ?_
      refine e_clr ?_
      refine e_end ?_
      obtain ⟨e_19, E_e_19, h⟩ := bind_some h
      refine g_v (.ref .sh 0 [] (.agg [(.int .i64 e_19.1), (.int .i64 e_19.2)])) (ev_idx (t := .sh) (lo := 0) (xs := g_1.2) (keep_clear (s := s) (pk := [5]) h11 rfl (Enc.map_enc _ (g_1.2 : List (Int × Int)))) (keep_clear (s := s) (pk := [5]) h13 rfl rfl) E_e_19 rfl rfl) ?_
      refine g_v1 (t := 15) (u := (.ref .sh 0 [] (.agg [(.int .i64 e_19.1), (.int .i64 e_19.2)]))) (.agg [(.int .i64 e_19.1), (.int .i64 e_19.2)]) rfl rfl rfl ?_
      refine g_alloc (gone_clear (s := s) (pk := [5]) (t := 5) rfl) ?_
      refine g_store (.agg [(.int .i64 e_19.1), (.int .i64 e_19.2)]) (rd_of rfl rfl) (rd_of rfl rfl) (by refine ⟨by decide, by decide, rfl, rfl, rfl, ?_⟩; first | rfl | simp [V.toks, V.tokss, Enc.toks_enc]) ?_
      refine g_end ?_
      refine e_end ?_
      refine renew [(2, (.ref (.bx 2) 0 [] (.agg [(.sl .nl (Enc.shp Int) 0 [])]))), (3, (.ref (.bx 3) 0 [] (.agg [(encO (.at 8 []) (.of (w_10 : List Int)))]))), (5, (.ref (.bx 5) 0 [] (.agg [(.int .i64 e_19.1), (.int .i64 e_19.2)]))), (11, (Enc.enc (g_1.2 : List (Int × Int)))), (12, (.int .i64 (g_1.2.length : Int))), (13, (.int .i64 t13_11))] ⟨(keep_mut (keep_clear (s := s) (pk := [5]) h2 rfl (map_bx rfl (map_agg (maps_cons rfl maps_nil)))) (mut_ref_ne rfl rfl (mut_agg (muts_cons rfl rfl)))), (keep_mut (keep_clear (s := s) (pk := [5]) h3 rfl (map_bx rfl (map_agg (maps_cons (map_encO (r := 8) (p := []) rfl rfl) maps_nil)))) (mut_ref_ne rfl rfl (mut_agg (muts_cons (mut_own_ne rfl rfl) rfl)))), (keep_mut rfl rfl), (keep_mut (keep_clear (s := s) (pk := [5]) h11 rfl (Enc.map_enc _ (g_1.2 : List (Int × Int)))) (Enc.mut_enc _ _ _ _ (g_1.2 : List (Int × Int)))), (keep_mut (keep_clear (s := s) (pk := [5]) h12 rfl rfl) rfl), (keep_mut (keep_clear (s := s) (pk := [5]) h13 rfl rfl) rfl)⟩ ?_
      rintro s ⟨h2, h3, h5, h11, h12, h13⟩
      refine .nsq ?_
      refine .seq ?_
      refine run_reg ?_
      refine e_end ?_
      refine g_v1 (t := 3) (u := (.ref (.bx 3) 0 [] (.agg [(encO (.at 8 []) (.of (w_10 : List Int)))]))) (.ref (.bx 3) 0 [0] (encO (.at 8 []) (.of (w_10 : List Int)))) h3 rfl rfl ?_
      refine g_v1 (t := 17) (u := (.ref (.bx 3) 0 [0] (encO (.at 8 []) (.of (w_10 : List Int))))) (encO (.at 8 []) (.of (w_10 : List Int))) rfl rfl rfl ?_
      refine g_v1 (t := 5) (u := (.ref (.bx 5) 0 [] (.agg [(.int .i64 e_19.1), (.int .i64 e_19.2)]))) (.ref (.bx 5) 0 [0] (.int .i64 e_19.1)) h5 rfl rfl ?_
      refine g_v1 (t := 19) (u := (.ref (.bx 5) 0 [0] (.int .i64 e_19.1))) (.int .i64 e_19.1) rfl rfl rfl ?_
      obtain ⟨e_20, E_e_20, h⟩ := bind_some h
      refine g_v (.ref (.at 8 []) e_19.1.toNat [] (.int .i64 e_20)) (ev_idxO (o := (.of w_10)) rfl rfl E_e_20 rfl) ?_
      refine g_v1 (t := 21) (u := (.ref (.at 8 []) e_19.1.toNat [] (.int .i64 e_20))) (.int .i64 e_20) rfl rfl rfl ?_
      refine g_v1 (t := 5) (u := (.ref (.bx 5) 0 [] (.agg [(.int .i64 e_19.1), (.int .i64 e_19.2)]))) (.ref (.bx 5) 0 [1] (.int .i64 e_19.2)) h5 rfl rfl ?_
      refine g_v1 (t := 23) (u := (.ref (.bx 5) 0 [1] (.int .i64 e_19.2))) (.int .i64 e_19.2) rfl rfl rfl ?_
      obtain ⟨q_21, E_q_21, h⟩ := bind_some h
      refine g_v (.int .i64 q_21) (ev_shl rfl rfl E_q_21) ?_
      refine g_v2 (t1 := 22) (t2 := 25) (u1 := (.int .i64 e_20)) (u2 := (.int .i64 q_21)) (.int .i64 (ior .i64 e_20 q_21)) rfl rfl rfl rfl ?_
      obtain ⟨e_22, E_e_22, h⟩ := bind_some h
      refine g_v (.ref (.at 8 []) e_19.1.toNat [] (.int .i64 e_22)) (ev_idxO (o := (.of w_10)) rfl rfl E_e_22 rfl) ?_
      refine g_store (.int .i64 (ior .i64 e_20 q_21)) (rd_of rfl rfl) (rd_of rfl rfl) (by refine ⟨by decide, by decide, rfl, rfl, rfl, ?_⟩; first | rfl | simp [V.toks, V.tokss, Enc.toks_enc]) ?_
      refine g_end ?_
      refine e_end ?_
      refine renew [(2, (.ref (.bx 2) 0 [] (.agg [(.sl .nl (Enc.shp Int) 0 [])]))), (3, (.ref (.bx 3) 0 [] (.agg [(encO (.at 8 []) (.of (w_10.set e_19.1.toNat (ior .i64 e_20 q_21) : List Int)))]))), (5, (.ref (.bx 5) 0 [] (.agg [(.int .i64 e_19.1), (.int .i64 e_19.2)]))), (11, (Enc.enc (g_1.2 : List (Int × Int)))), (12, (.int .i64 (g_1.2.length : Int))), (13, (.int .i64 t13_11))] ⟨(keep_mut h2 (mut_ref_ne rfl rfl (mut_agg (muts_cons rfl rfl)))), (keep_mut h3 (mut_ref_ne rfl rfl (mut_agg (muts_cons mut_own rfl)))), (keep_mut h5 rfl), (keep_mut h11 (Enc.mut_enc _ _ _ _ (g_1.2 : List (Int × Int)))), (keep_mut h12 rfl), (keep_mut h13 rfl)⟩ ?_
      rintro s ⟨h2, h3, h5, h11, h12, h13⟩
      refine .nsq ?_
      refine run_reg ?_
      refine e_end ?_
      refine g_v1 (t := 3) (u := (.ref (.bx 3) 0 [] (.agg [(encO (.at 8 []) (.of (w_10.set e_19.1.toNat (ior .i64 e_20 q_21) : List Int)))]))) (.ref (.bx 3) 0 [0] (encO (.at 8 []) (.of (w_10.set e_19.1.toNat (ior .i64 e_20 q_21) : List Int)))) h3 rfl rfl ?_
      refine g_v1 (t := 28) (u := (.ref (.bx 3) 0 [0] (encO (.at 8 []) (.of (w_10.set e_19.1.toNat (ior .i64 e_20 q_21) : List Int))))) (encO (.at 8 []) (.of (w_10.set e_19.1.toNat (ior .i64 e_20 q_21) : List Int))) rfl rfl rfl ?_
      refine g_v1 (t := 5) (u := (.ref (.bx 5) 0 [] (.agg [(.int .i64 e_19.1), (.int .i64 e_19.2)]))) (.ref (.bx 5) 0 [1] (.int .i64 e_19.2)) h5 rfl rfl ?_
      refine g_v1 (t := 30) (u := (.ref (.bx 5) 0 [1] (.int .i64 e_19.2))) (.int .i64 e_19.2) rfl rfl rfl ?_
      obtain ⟨e_23, E_e_23, h⟩ := bind_some h
      refine g_v (.ref (.at 8 []) e_19.2.toNat [] (.int .i64 e_23)) (ev_idxO (o := (.of (w_10.set e_19.1.toNat (ior .i64 e_20 q_21)))) rfl rfl E_e_23 rfl) ?_
      refine g_v1 (t := 32) (u := (.ref (.at 8 []) e_19.2.toNat [] (.int .i64 e_23))) (.int .i64 e_23) rfl rfl rfl ?_
      refine g_v1 (t := 5) (u := (.ref (.bx 5) 0 [] (.agg [(.int .i64 e_19.1), (.int .i64 e_19.2)]))) (.ref (.bx 5) 0 [0] (.int .i64 e_19.1)) h5 rfl rfl ?_
      refine g_v1 (t := 34) (u := (.ref (.bx 5) 0 [0] (.int .i64 e_19.1))) (.int .i64 e_19.1) rfl rfl rfl ?_
      obtain ⟨q_24, E_q_24, h⟩ := bind_some h
      refine g_v (.int .i64 q_24) (ev_shl rfl rfl E_q_24) ?_
      refine g_v2 (t1 := 33) (t2 := 36) (u1 := (.int .i64 e_23)) (u2 := (.int .i64 q_24)) (.int .i64 (ior .i64 e_23 q_24)) rfl rfl rfl rfl ?_
      obtain ⟨e_25, E_e_25, h⟩ := bind_some h
      refine g_v (.ref (.at 8 []) e_19.2.toNat [] (.int .i64 e_25)) (ev_idxO (o := (.of (w_10.set e_19.1.toNat (ior .i64 e_20 q_21)))) rfl rfl E_e_25 rfl) ?_
      refine g_store (.int .i64 (ior .i64 e_23 q_24)) (rd_of rfl rfl) (rd_of rfl rfl) (by refine ⟨by decide, by decide, rfl, rfl, rfl, ?_⟩; first | rfl | simp [V.toks, V.tokss, Enc.toks_enc]) ?_
      refine g_end ?_
      refine e_end ?_
      refine renew [(2, (.ref (.bx 2) 0 [] (.agg [(.sl .nl (Enc.shp Int) 0 [])]))), (3, (.ref (.bx 3) 0 [] (.agg [(encO (.at 8 []) (.of ((w_10.set e_19.1.toNat (ior .i64 e_20 q_21)).set e_19.2.toNat (ior .i64 e_23 q_24) : List Int)))]))), (11, (Enc.enc (g_1.2 : List (Int × Int)))), (12, (.int .i64 (g_1.2.length : Int))), (13, (.int .i64 t13_11))] ⟨(keep_mut h2 (mut_ref_ne rfl rfl (mut_agg (muts_cons rfl rfl)))), (keep_mut h3 (mut_ref_ne rfl rfl (mut_agg (muts_cons mut_own rfl)))), (keep_mut h11 (Enc.mut_enc _ _ _ _ (g_1.2 : List (Int × Int)))), (keep_mut h12 rfl), (keep_mut h13 rfl)⟩ ?_
      rintro s ⟨h2, h3, h11, h12, h13⟩
      refine .nbk ?_
      refine .nsq ?_
      refine run_reg ?_
      refine e_end ?_
      refine g_v1 (t := 13) (u := (.int .i64 t13_11)) (.int .i64 (w64 (t13_11 + 1))) h13 rfl rfl ?_
      refine g_v1 (t := 39) (u := (.int .i64 (w64 (t13_11 + 1)))) (.int .i64 (w64 (t13_11 + 1))) rfl rfl rfl ?_
      refine g_end ?_
      refine e_end ?_
      refine renew [(2, (.ref (.bx 2) 0 [] (.agg [(.sl .nl (Enc.shp Int) 0 [])]))), (3, (.ref (.bx 3) 0 [] (.agg [(encO (.at 8 []) (.of ((w_10.set e_19.1.toNat (ior .i64 e_20 q_21)).set e_19.2.toNat (ior .i64 e_23 q_24) : List Int)))]))), (11, (Enc.enc (g_1.2 : List (Int × Int)))), (12, (.int .i64 (g_1.2.length : Int))), (13, (.int .i64 (w64 (t13_11 + 1))))] ⟨h2, h3, h11, h12, rfl⟩ ?_
      rintro s ⟨h2, h3, h11, h12, h13⟩
      refine .nlp ?_
      exact ih ((w_10.set e_19.1.toNat (ior .i64 e_20 q_21)).set e_19.2.toNat (ior .i64 e_23 q_24)) (w64 (t13_11 + 1)) _ ⟨h2, h3, h11, h12, h13⟩ h
    · refine .exit ?_
      refine .esq ?_
      refine .elp ?_
      refine .ebk ?_
      refine .nsq ?_
      refine .seq ?_
      refine run_reg ?_
      refine e_end ?_
      refine g_v1 (t := 3) (u := (.ref (.bx 3) 0 [] (.agg [(encO (.at 8 []) (.of (w_10 : List Int)))]))) (.agg [(encO (.at 8 []) (.of (w_10 : List Int)))]) h3 rfl rfl ?_
      refine g_store (.agg [(encO (.at 8 []) (.of (w_10 : List Int)))]) (rd_of h2 rfl) (rd_of rfl rfl) (by refine ⟨by decide, by decide, rfl, rfl, rfl, ?_⟩; first | rfl | simp [V.toks, V.tokss, Enc.toks_enc]) ?_
      refine g_end ?_
      refine e_end ?_
      refine renew [(2, (.ref (.bx 2) 0 [] (.agg [(encO (.at 8 []) (.of (w_10 : List Int)))])))] (keep_mut h2 rfl) ?_
      rintro s h2
      refine .nsq ?_
      refine .ret ?_
      have hr := Option.some.inj h
      subst hr
      exact rrA (res_cell h2 (by kernel_rfl)) (fin_ret1 (fin_agg (fins_cons (fin_own (o := .of w_10)) fins_nil)))
def i_netOf (F : Nat) (g_1 : (Int × (List (Int × Int)))) : Option (S1 (List Int)) :=
  (mkN g_1.1 0).bind fun mk_2 =>
  i_netOf_l1 F g_1 F mk_2 0
theorem t55 (H : H55 D σ F) (g_1 : (Int × (List (Int × Int)))) (s : Nat → V) (hs : Facts [(0, (.agg [(.int .i64 g_1.1), (Enc.enc (g_1.2 : List (Int × Int)))]))] s) (h : i_netOf F g_1 = some r) : Run D σ (R55 r) (.run A55 []) s := by
  unfold i_netOf at h
  have h0 := hs
  refine .seq ?_
  refine run_reg ?_
  refine e_clr ?_
  refine e_end ?_
  refine g_box (.agg [(.int .i64 g_1.1), (Enc.enc (g_1.2 : List (Int × Int)))]) (rd_of (keep_clear (s := s) (pk := [1, 2]) h0 rfl (map_agg (maps_cons rfl (maps_cons (Enc.map_enc _ (g_1.2 : List (Int × Int))) maps_nil)))) rfl) (gone_clear (s := s) (pk := [1, 2]) (t := 1) rfl) rfl ?_
  refine g_alloc (gone_clear (s := s) (pk := [1, 2]) (t := 2) rfl) ?_
  refine g_end ?_
  refine e_end ?_
  refine renew [(1, (.ref (.bx 1) 0 [] (.agg [(.int .i64 g_1.1), (Enc.enc (g_1.2 : List (Int × Int)))]))), (2, (.ref (.bx 2) 0 [] (.agg [(.sl .nl (Enc.shp Int) 0 [])])))] ⟨rfl, rfl⟩ ?_
  rintro s ⟨h1, h2⟩
  refine .nsq ?_
  refine .seq ?_
  refine run_reg ?_
  refine e_clr ?_
  refine e_end ?_
  refine g_v1 (t := 1) (u := (.ref (.bx 1) 0 [] (.agg [(.int .i64 g_1.1), (Enc.enc (g_1.2 : List (Int × Int)))]))) (.ref (.bx 1) 0 [0] (.int .i64 g_1.1)) (keep_clear (s := s) (pk := [8, 3]) h1 rfl (map_bx rfl (map_agg (maps_cons rfl (maps_cons (Enc.map_enc _ (g_1.2 : List (Int × Int))) maps_nil))))) rfl rfl ?_
  refine g_v1 (t := 6) (u := (.ref (.bx 1) 0 [0] (.int .i64 g_1.1))) (.int .i64 g_1.1) rfl rfl rfl ?_
  obtain ⟨mk_2, E_mk_2, h⟩ := bind_some h
  refine g_mk (0 : Int) rfl rfl (gone_clear (s := s) (pk := [8, 3]) (t := 8) rfl) E_mk_2 ?_
  refine g_v1 (t := 8) (u := (encO (.at 8 []) (.of (mk_2 : List Int)))) (.agg [(encO (.at 8 []) (.of (mk_2 : List Int)))]) rfl rfl rfl ?_
  refine g_alloc (gone_clear (s := s) (pk := [8, 3]) (t := 3) rfl) ?_
  refine g_store (.agg [(encO (.at 8 []) (.of (mk_2 : List Int)))]) (rd_of rfl rfl) (rd_of rfl rfl) (by refine ⟨by decide, by decide, rfl, rfl, rfl, ?_⟩; first | rfl | simp [V.toks, V.tokss, Enc.toks_enc]) ?_
  refine g_end ?_
  refine e_end ?_
  refine renew [(1, (.ref (.bx 1) 0 [] (.agg [(.int .i64 g_1.1), (Enc.enc (g_1.2 : List (Int × Int)))]))), (2, (.ref (.bx 2) 0 [] (.agg [(.sl .nl (Enc.shp Int) 0 [])]))), (3, (.ref (.bx 3) 0 [] (.agg [(encO (.at 8 []) (.of (mk_2 : List Int)))])))] ⟨(keep_mut (keep_clear (s := s) (pk := [8, 3]) h1 rfl (map_bx rfl (map_agg (maps_cons rfl (maps_cons (Enc.map_enc _ (g_1.2 : List (Int × Int))) maps_nil))))) (mut_ref_ne rfl rfl (mut_agg (muts_cons rfl (muts_cons (Enc.mut_enc _ _ _ _ (g_1.2 : List (Int × Int))) rfl))))), (keep_mut (keep_clear (s := s) (pk := [8, 3]) h2 rfl (map_bx rfl (map_agg (maps_cons rfl maps_nil)))) (mut_ref_ne rfl rfl (mut_agg (muts_cons rfl rfl)))), (keep_mut rfl rfl)⟩ ?_
  rintro s ⟨h1, h2, h3⟩
  refine .nsq ?_
  refine .seq ?_
  refine .seq ?_
  refine run_reg ?_
  refine e_end ?_
  refine g_v1 (t := 1) (u := (.ref (.bx 1) 0 [] (.agg [(.int .i64 g_1.1), (Enc.enc (g_1.2 : List (Int × Int)))]))) (.ref (.bx 1) 0 [1] (Enc.enc (g_1.2 : List (Int × Int)))) h1 rfl rfl ?_
  refine g_v1 (t := 10) (u := (.ref (.bx 1) 0 [1] (Enc.enc (g_1.2 : List (Int × Int))))) (Enc.enc (g_1.2 : List (Int × Int))) rfl rfl rfl ?_
  refine g_v (.int .i64 (g_1.2.length : Int)) (ev_len (xs := g_1.2) rfl) ?_
  refine g_v0 (.int .i64 0) rfl rfl ?_
  refine g_end ?_
  refine e_end ?_
  refine renew [(2, (.ref (.bx 2) 0 [] (.agg [(.sl .nl (Enc.shp Int) 0 [])]))), (3, (.ref (.bx 3) 0 [] (.agg [(encO (.at 8 []) (.of (mk_2 : List Int)))]))), (11, (Enc.enc (g_1.2 : List (Int × Int)))), (12, (.int .i64 (g_1.2.length : Int))), (13, (.int .i64 0))] ⟨h2, h3, rfl, rfl, rfl⟩ ?_
  rintro s ⟨h2, h3, h11, h12, h13⟩
  refine .nsq ?_
  refine .block ?_
  refine .loop ?_
  exact t_f55_l1 H g_1 F mk_2 0 _ ⟨h2, h3, h11, h12, h13⟩ h
end
def e55 (F : Nat) : Ent := ⟨55, dn1 (i_netOf F) (fun (r : (S1 (List Int))) => (Enc.enc (r : (S1 (List Int))))), 0, true⟩
theorem o55 {D : Den} {σ : Sig} {F : Nat} (hF : Fits2 Try.prog D σ) (H : H55 D σ F) : (e55 F).Ok Try.prog := by
  refine ⟨fun args r h => ?_, ⟨Try.f55, Try.func55, rfl, rfl⟩⟩
  obtain ⟨x0, y, rfl, hy, rfl⟩ := dn1_open h
  exact contract_run hF (by kernel_rfl) Try.func55 rfl c55 (show 1 ≤ Try.f55.ntmps by decide) (t55 H x0 _ rfl hy)
/- (loop.example/g01109/impl.net).all -/
def A68_1 : AC := (AC.seq (AC.reg [] [(I.mk (some 3) none false (X.v (A.fld (O.t 1) 0 0))), (I.mk (some 4) none false (X.v (A.load Sh.p (O.t 3)))), (I.mk (some 5) none false (X.v (A.len (O.t 4)))), (I.mk (some 6) none false (X.v (A.bin BinOp.shl (O.k (V.int IntKind.i64 (Int.ofNat 1))) (O.t 5)))), (I.mk (some 7) none false (X.v (A.bin BinOp.sub (O.t 6) (O.k (V.int IntKind.i64 (Int.ofNat 1)))))), (I.mk (some 2) none false (X.v (A.mov (O.t 7))))] []) AC.ret)
def A68 : AC := (AC.seq (AC.reg [.clr [1]] [(I.mk (some 1) none false (X.box (O.t 0))), (I.mk (some 2) none false (X.v (A.mov (O.k (V.int IntKind.i64 (Int.ofNat 0))))))] []) A68_1)
def an68 : List An := [{ id := 0, pre := [.clr [1]], ep := [], lin := [], sp := [] }]
theorem c68 : cC Try.prog Try.f68.ntmps an68 (Try.f68.body.getD .skip) = some A68 := by kernel_rfl
structure H68 (D : Den) (σ : Sig) (F : Nat) : Prop where
  mk ::
abbrev R68 (r : Int) : (Nat → V) → Prop := RR Try.prog [.tmp 2] 0 false (Enc.enc (r : Int))
section
variable {D : Den} {σ : Sig} {F : Nat} {r : Int}
def i_net_all (F : Nat) (w_1 : (S1 (List Int))) : Option Int :=
  (shlI .i64 1 (w_1.a.length : Int)).bind fun q_2 =>
  some (w64 (q_2 - 1))
theorem t68 (H : H68 D σ F) (w_1 : (S1 (List Int))) (s : Nat → V) (hs : Facts [(0, (.agg [(Enc.enc (w_1.a : List Int))]))] s) (h : i_net_all F w_1 = some r) : Run D σ (R68 r) (.run A68 []) s := by
  unfold i_net_all at h
  have h0 := hs
  refine .seq ?_
  refine run_reg ?_
  refine e_clr ?_
  refine e_end ?_
  refine g_box (.agg [(Enc.enc (w_1.a : List Int))]) (rd_of (keep_clear (s := s) (pk := [1]) h0 rfl (map_agg (maps_cons (Enc.map_enc _ (w_1.a : List Int)) maps_nil))) rfl) (gone_clear (s := s) (pk := [1]) (t := 1) rfl) rfl ?_
  refine g_v0 (.int .i64 0) rfl rfl ?_
  refine g_end ?_
  refine e_end ?_
  refine renew [(1, (.ref (.bx 1) 0 [] (.agg [(Enc.enc (w_1.a : List Int))]))), (2, (.int .i64 0))] ⟨rfl, rfl⟩ ?_
  rintro s ⟨h1, h2⟩
  refine .nsq ?_
  refine .seq ?_
  refine run_reg ?_
  refine e_end ?_
  refine g_v1 (t := 1) (u := (.ref (.bx 1) 0 [] (.agg [(Enc.enc (w_1.a : List Int))]))) (.ref (.bx 1) 0 [0] (Enc.enc (w_1.a : List Int))) h1 rfl rfl ?_
  refine g_v1 (t := 3) (u := (.ref (.bx 1) 0 [0] (Enc.enc (w_1.a : List Int)))) (Enc.enc (w_1.a : List Int)) rfl rfl rfl ?_
  refine g_v (.int .i64 (w_1.a.length : Int)) (ev_len (xs := w_1.a) rfl) ?_
  obtain ⟨q_2, E_q_2, h⟩ := bind_some h
  refine g_v (.int .i64 q_2) (ev_shl rfl rfl E_q_2) ?_
  refine g_v1 (t := 6) (u := (.int .i64 q_2)) (.int .i64 (w64 (q_2 - 1))) rfl rfl rfl ?_
  refine g_v1 (t := 7) (u := (.int .i64 (w64 (q_2 - 1)))) (.int .i64 (w64 (q_2 - 1))) rfl rfl rfl ?_
  refine g_end ?_
  refine e_end ?_
  refine renew [(2, (.int .i64 (w64 (q_2 - 1))))] rfl ?_
  rintro s h2
  refine .nsq ?_
  refine .ret ?_
  have hr := Option.some.inj h
  subst hr
  exact rrA (res_tmp h2) rfl
end
def e68 (F : Nat) : Ent := ⟨68, dn1 (i_net_all F) (fun (r : Int) => (Enc.enc (r : Int))), 0, false⟩
theorem o68 {D : Den} {σ : Sig} {F : Nat} (hF : Fits2 Try.prog D σ) (H : H68 D σ F) : (e68 F).Ok Try.prog := by
  refine ⟨fun args r h => ?_, ⟨Try.f68, Try.func68, rfl, rfl⟩⟩
  obtain ⟨x0, y, rfl, hy, rfl⟩ := dn1_open h
  exact contract_run hF (by kernel_rfl) Try.func68 rfl c68 (show 1 ≤ Try.f68.ntmps by decide) (t68 H x0 _ rfl hy)
/- (loop.example/g01109/impl.net).around -/
def A119_5 : AC := (AC.cond (O.t 21) (AC.reg [] [(I.mk (some 22) none false (X.v (A.mov (O.t 5)))), (I.mk (some 23) none false (X.v (A.mov (O.t 7)))), (I.mk (some 24) none false (X.v (A.bin BinOp.or (O.t 22) (O.t 23)))), (I.mk (some 5) none false (X.v (A.mov (O.t 24))))] []) AC.skip)
def A119_4 : AC := (AC.seq (AC.reg [] [(I.mk (some 17) none false (X.v (A.mov (O.t 1)))), (I.mk (some 18) none false (X.v (A.mov (O.t 6)))), (I.mk (some 19) none false (X.v (A.bin BinOp.shr (O.t 17) (O.t 18)))), (I.mk (some 20) none false (X.v (A.bin BinOp.and (O.t 19) (O.k (V.int IntKind.i64 (Int.ofNat 1)))))), (I.mk (some 21) none false (X.v (A.bin BinOp.eql (O.t 20) (O.k (V.int IntKind.i64 (Int.ofNat 1))))))] []) A119_5)
def A119_6 : AC := (AC.reg [] [(I.mk (some 25) none false (X.v (A.bin BinOp.add (O.t 12) (O.k (V.int IntKind.i64 (Int.ofNat 1)))))), (I.mk (some 12) none false (X.v (A.mov (O.t 25))))] [])
def A119_3 : AC := (AC.seq (AC.block 1 (AC.seq (AC.reg [] [(I.mk (some 14) none false (X.v (A.mov (O.t 12)))), (I.mk (some 15) none false (X.v (A.idx (O.t 10) (O.t 12) 1))), (I.mk (some 16) none false (X.v (A.load Sh.s (O.t 15)))), (I.mk (some 6) none false (X.v (A.mov (O.t 14)))), (I.mk (some 7) none false (X.v (A.mov (O.t 16))))] []) A119_4)) A119_6)
def A119_2 : AC := (AC.seq (AC.cond (O.t 13) AC.skip (AC.exit 0)) A119_3)
def A119_1 : AC := (AC.seq (AC.reg [] [(I.mk (some 13) none false (X.v (A.bin BinOp.lss (O.t 12) (O.t 11))))] []) A119_2)
def A119_7 : AC := (AC.seq (AC.reg [] [(I.mk (some 26) none false (X.v (A.mov (O.t 5)))), (I.mk (some 4) none false (X.v (A.mov (O.t 26))))] []) AC.ret)
def A119_10 : AC := (AC.block 0 (AC.loop A119_1))
def A119_9 : AC := (AC.seq (AC.seq (AC.reg [] [(I.mk (some 9) none false (X.v (A.fld (O.t 2) 0 0))), (I.mk (some 10) none false (X.v (A.load Sh.p (O.t 9)))), (I.mk (some 11) none false (X.v (A.len (O.t 10)))), (I.mk (some 12) none false (X.v (A.mov (O.k (V.int IntKind.i64 (Int.ofNat 0))))))] []) A119_10) A119_7)
def A119_8 : AC := (AC.seq (AC.reg [] [(I.mk (some 8) none false (X.v (A.mov (O.t 1)))), (I.mk (some 5) none false (X.v (A.mov (O.t 8))))] []) A119_9)
def A119 : AC := (AC.seq (AC.reg [.clr [2]] [(I.mk (some 2) none false (X.box (O.t 0))), (I.mk (some 4) none false (X.v (A.mov (O.k (V.int IntKind.i64 (Int.ofNat 0))))))] []) A119_8)
def an119 : List An := [{ id := 0, pre := [.clr [2]], ep := [], lin := [], sp := [] }]
theorem c119 : cC Try.prog Try.f119.ntmps an119 (Try.f119.body.getD .skip) = some A119 := by kernel_rfl
structure H119 (D : Den) (σ : Sig) (F : Nat) : Prop where
  mk ::
abbrev R119 (r : Int) : (Nat → V) → Prop := RR Try.prog [.tmp 4] 0 false (Enc.enc (r : Int))
section
variable {D : Den} {σ : Sig} {F : Nat} {r : Int}
def i_net_around_j1 (F : Nat) (set_2 : Int) (w_1 : (S1 (List Int))) (t12_7 : Int) (c1 : Int → Int → Option Int) (out_13 : Int) : Option Int :=
  c1 out_13 (w64 (t12_7 + 1))
theorem t_f119_j1 (H : H119 D σ F) (set_2 : Int) (w_1 : (S1 (List Int))) (t12_7 : Int) (c1 : Int → Int → Option Int) (Hc1 : ∀ (out_6 : Int) (t12_7 : Int) (s : Nat → V), Facts [(1, (.int .i64 set_2)), (4, (.int .i64 0)), (5, (.int .i64 out_6)), (10, (Enc.enc (w_1.a : List Int))), (11, (.int .i64 (w_1.a.length : Int))), (12, (.int .i64 t12_7))] s → c1 out_6 t12_7 = some r → Run D σ (R119 r) (.run A119_1 [.lp A119_1, .bk 0, .sq A119_7]) s) (out_13 : Int) (s : Nat → V) (hs : Facts [(1, (.int .i64 set_2)), (4, (.int .i64 0)), (5, (.int .i64 out_13)), (10, (Enc.enc (w_1.a : List Int))), (11, (.int .i64 (w_1.a.length : Int))), (12, (.int .i64 t12_7))] s) (h : i_net_around_j1 F set_2 w_1 t12_7 c1 out_13 = some r) : Run D σ (R119 r) (.nrm [.bk 1, .sq A119_6, .lp A119_1, .bk 0, .sq A119_7]) s := by
  unfold i_net_around_j1 at h
  obtain ⟨h1, h4, h5, h10, h11, h12⟩ := hs
  refine .nbk ?_
  refine .nsq ?_
  refine run_reg ?_
  refine e_end ?_
  refine g_v1 (t := 12) (u := (.int .i64 t12_7)) (.int .i64 (w64 (t12_7 + 1))) h12 rfl rfl ?_
  refine g_v1 (t := 25) (u := (.int .i64 (w64 (t12_7 + 1)))) (.int .i64 (w64 (t12_7 + 1))) rfl rfl rfl ?_
  refine g_end ?_
  refine e_end ?_
  refine renew [(1, (.int .i64 set_2)), (4, (.int .i64 0)), (5, (.int .i64 out_13)), (10, (Enc.enc (w_1.a : List Int))), (11, (.int .i64 (w_1.a.length : Int))), (12, (.int .i64 (w64 (t12_7 + 1))))] ⟨h1, h4, h5, h10, h11, rfl⟩ ?_
  rintro s ⟨h1, h4, h5, h10, h11, h12⟩
  refine .nlp ?_
  exact Hc1 out_13 (w64 (t12_7 + 1)) _ ⟨h1, h4, h5, h10, h11, h12⟩ h
def i_net_around_l1 (F : Nat) (set_2 : Int) (w_1 : (S1 (List Int)))  : Nat → Int → Int → Option Int
  | 0, _, _ => none
  | k + 1, out_6, t12_7 =>
    bif decide (t12_7 < (w_1.a.length : Int)) then
      (idx w_1.a t12_7).bind fun e_11 =>
      (shrI .i64 set_2 t12_7).bind fun q_12 =>
      bif ((iand .i64 q_12 1) == 1) then
        i_net_around_j1 F set_2 w_1 t12_7 (i_net_around_l1 F set_2 w_1 k) (ior .i64 out_6 e_11)
      else
        i_net_around_j1 F set_2 w_1 t12_7 (i_net_around_l1 F set_2 w_1 k) out_6
    else
      some out_6
theorem t_f119_l1 (H : H119 D σ F) (set_2 : Int) (w_1 : (S1 (List Int)))  : ∀ (k : Nat) (out_6 : Int) (t12_7 : Int) (s : Nat → V), Facts [(1, (.int .i64 set_2)), (4, (.int .i64 0)), (5, (.int .i64 out_6)), (10, (Enc.enc (w_1.a : List Int))), (11, (.int .i64 (w_1.a.length : Int))), (12, (.int .i64 t12_7))] s → i_net_around_l1 F set_2 w_1 k out_6 t12_7 = some r → Run D σ (R119 r) (.run A119_1 [.lp A119_1, .bk 0, .sq A119_7]) s := by
  intro k
  induction k with
  | zero => intro out_6 t12_7 s _ h; exact nomatch (h : (none : Option _) = some r)
  | succ k ih =>
    intro out_6 t12_7 s hs h
    rw [i_net_around_l1] at h
    obtain ⟨h1, h4, h5, h10, h11, h12⟩ := hs
    refine .seq ?_
    refine run_reg ?_
    refine e_end ?_
    refine g_v2 (t1 := 12) (t2 := 11) (u1 := (.int .i64 t12_7)) (u2 := (.int .i64 (w_1.a.length : Int))) (.bool (decide (t12_7 < (w_1.a.length : Int)))) h12 h11 rfl rfl ?_
    refine g_end ?_
    refine e_end ?_
    refine renew [(1, (.int .i64 set_2)), (4, (.int .i64 0)), (5, (.int .i64 out_6)), (10, (Enc.enc (w_1.a : List Int))), (11, (.int .i64 (w_1.a.length : Int))), (12, (.int .i64 t12_7)), (13, (.bool (decide (t12_7 < (w_1.a.length : Int)))))] ⟨h1, h4, h5, h10, h11, h12, rfl⟩ ?_
    rintro s ⟨h1, h4, h5, h10, h11, h12, h13⟩
    refine .nsq ?_
    refine .seq ?_
    refine run_cond (t := decide (t12_7 < (w_1.a.length : Int))) h13 h (fun h => ?_) (fun h => ?_)
    · refine .skip ?_
      refine .nsq ?_
      refine .seq ?_
      refine .block ?_
      refine .seq ?_
      refine run_reg ?_
      refine e_end ?_
      refine g_v1 (t := 12) (u := (.int .i64 t12_7)) (.int .i64 t12_7) h12 rfl rfl ?_
      obtain ⟨e_11, E_e_11, h⟩ := bind_some h
      refine g_v (.ref .sh 0 [] (.int .i64 e_11)) (ev_idx (t := .sh) (lo := 0) (xs := w_1.a) h10 h12 E_e_11 rfl rfl) ?_
      refine g_v1 (t := 15) (u := (.ref .sh 0 [] (.int .i64 e_11))) (.int .i64 e_11) rfl rfl rfl ?_
      refine g_v1 (t := 14) (u := (.int .i64 t12_7)) (.int .i64 t12_7) rfl rfl rfl ?_
      refine g_v1 (t := 16) (u := (.int .i64 e_11)) (.int .i64 e_11) rfl rfl rfl ?_
      refine g_end ?_
      refine e_end ?_
      refine renew [(1, (.int .i64 set_2)), (4, (.int .i64 0)), (5, (.int .i64 out_6)), (6, (.int .i64 t12_7)), (7, (.int .i64 e_11)), (10, (Enc.enc (w_1.a : List Int))), (11, (.int .i64 (w_1.a.length : Int))), (12, (.int .i64 t12_7))] ⟨h1, h4, h5, rfl, rfl, h10, h11, h12⟩ ?_
      rintro s ⟨h1, h4, h5, h6, h7, h10, h11, h12⟩
      refine .nsq ?_
      refine .seq ?_
      refine run_reg ?_
      refine e_end ?_
      refine g_v1 (t := 1) (u := (.int .i64 set_2)) (.int .i64 set_2) h1 rfl rfl ?_
      refine g_v1 (t := 6) (u := (.int .i64 t12_7)) (.int .i64 t12_7) h6 rfl rfl ?_
      obtain ⟨q_12, E_q_12, h⟩ := bind_some h
      refine g_v (.int .i64 q_12) (ev_shr rfl rfl E_q_12) ?_
      refine g_v1 (t := 19) (u := (.int .i64 q_12)) (.int .i64 (iand .i64 q_12 1)) rfl rfl rfl ?_
      refine g_v1 (t := 20) (u := (.int .i64 (iand .i64 q_12 1))) (.bool ((iand .i64 q_12 1) == 1)) rfl rfl rfl ?_
      refine g_end ?_
      refine e_end ?_
      refine renew [(1, (.int .i64 set_2)), (4, (.int .i64 0)), (5, (.int .i64 out_6)), (7, (.int .i64 e_11)), (10, (Enc.enc (w_1.a : List Int))), (11, (.int .i64 (w_1.a.length : Int))), (12, (.int .i64 t12_7)), (21, (.bool ((iand .i64 q_12 1) == 1)))] ⟨h1, h4, h5, h7, h10, h11, h12, rfl⟩ ?_
      rintro s ⟨h1, h4, h5, h7, h10, h11, h12, h21⟩
      refine .nsq ?_
      refine run_cond (t := ((iand .i64 q_12 1) == 1)) h21 h (fun h => ?_) (fun h => ?_)
      · refine run_reg ?_
        refine e_end ?_
        refine g_v1 (t := 5) (u := (.int .i64 out_6)) (.int .i64 out_6) h5 rfl rfl ?_
        refine g_v1 (t := 7) (u := (.int .i64 e_11)) (.int .i64 e_11) h7 rfl rfl ?_
        refine g_v2 (t1 := 22) (t2 := 23) (u1 := (.int .i64 out_6)) (u2 := (.int .i64 e_11)) (.int .i64 (ior .i64 out_6 e_11)) rfl rfl rfl rfl ?_
        refine g_v1 (t := 24) (u := (.int .i64 (ior .i64 out_6 e_11))) (.int .i64 (ior .i64 out_6 e_11)) rfl rfl rfl ?_
        refine g_end ?_
        refine e_end ?_
        refine renew [(1, (.int .i64 set_2)), (4, (.int .i64 0)), (5, (.int .i64 (ior .i64 out_6 e_11))), (10, (Enc.enc (w_1.a : List Int))), (11, (.int .i64 (w_1.a.length : Int))), (12, (.int .i64 t12_7))] ⟨h1, h4, rfl, h10, h11, h12⟩ ?_
        rintro s ⟨h1, h4, h5, h10, h11, h12⟩
        exact t_f119_j1 H set_2 w_1 t12_7 (i_net_around_l1 F set_2 w_1 k) ih (ior .i64 out_6 e_11) _ ⟨h1, h4, h5, h10, h11, h12⟩ h
      · refine .skip ?_
        exact t_f119_j1 H set_2 w_1 t12_7 (i_net_around_l1 F set_2 w_1 k) ih out_6 _ ⟨h1, h4, h5, h10, h11, h12⟩ h
    · refine .exit ?_
      refine .esq ?_
      refine .elp ?_
      refine .ebk ?_
      refine .nsq ?_
      refine .seq ?_
      refine run_reg ?_
      refine e_end ?_
      refine g_v1 (t := 5) (u := (.int .i64 out_6)) (.int .i64 out_6) h5 rfl rfl ?_
      refine g_v1 (t := 26) (u := (.int .i64 out_6)) (.int .i64 out_6) rfl rfl rfl ?_
      refine g_end ?_
      refine e_end ?_
      refine renew [(4, (.int .i64 out_6))] rfl ?_
      rintro s h4
      refine .nsq ?_
      refine .ret ?_
      have hr := Option.some.inj h
      subst hr
      exact rrA (res_tmp h4) rfl
def i_net_around (F : Nat) (w_1 : (S1 (List Int))) (set_2 : Int) : Option Int :=
  i_net_around_l1 F set_2 w_1 F set_2 0
theorem t119 (H : H119 D σ F) (w_1 : (S1 (List Int))) (set_2 : Int) (s : Nat → V) (hs : Facts [(0, (.agg [(Enc.enc (w_1.a : List Int))])), (1, (.int .i64 set_2))] s) (h : i_net_around F w_1 set_2 = some r) : Run D σ (R119 r) (.run A119 []) s := by
  unfold i_net_around at h
  obtain ⟨h0, h1⟩ := hs
  refine .seq ?_
  refine run_reg ?_
  refine e_clr ?_
  refine e_end ?_
  refine g_box (.agg [(Enc.enc (w_1.a : List Int))]) (rd_of (keep_clear (s := s) (pk := [2]) h0 rfl (map_agg (maps_cons (Enc.map_enc _ (w_1.a : List Int)) maps_nil))) rfl) (gone_clear (s := s) (pk := [2]) (t := 2) rfl) rfl ?_
  refine g_v0 (.int .i64 0) rfl rfl ?_
  refine g_end ?_
  refine e_end ?_
  refine renew [(1, (.int .i64 set_2)), (2, (.ref (.bx 2) 0 [] (.agg [(Enc.enc (w_1.a : List Int))]))), (4, (.int .i64 0))] ⟨(keep_clear (s := s) (pk := [2]) h1 rfl rfl), rfl, rfl⟩ ?_
  rintro s ⟨h1, h2, h4⟩
  refine .nsq ?_
  refine .seq ?_
  refine run_reg ?_
  refine e_end ?_
  refine g_v1 (t := 1) (u := (.int .i64 set_2)) (.int .i64 set_2) h1 rfl rfl ?_
  refine g_v1 (t := 8) (u := (.int .i64 set_2)) (.int .i64 set_2) rfl rfl rfl ?_
  refine g_end ?_
  refine e_end ?_
  refine renew [(1, (.int .i64 set_2)), (2, (.ref (.bx 2) 0 [] (.agg [(Enc.enc (w_1.a : List Int))]))), (4, (.int .i64 0)), (5, (.int .i64 set_2))] ⟨h1, h2, h4, rfl⟩ ?_
  rintro s ⟨h1, h2, h4, h5⟩
  refine .nsq ?_
  refine .seq ?_
  refine .seq ?_
  refine run_reg ?_
  refine e_end ?_
  refine g_v1 (t := 2) (u := (.ref (.bx 2) 0 [] (.agg [(Enc.enc (w_1.a : List Int))]))) (.ref (.bx 2) 0 [0] (Enc.enc (w_1.a : List Int))) h2 rfl rfl ?_
  refine g_v1 (t := 9) (u := (.ref (.bx 2) 0 [0] (Enc.enc (w_1.a : List Int)))) (Enc.enc (w_1.a : List Int)) rfl rfl rfl ?_
  refine g_v (.int .i64 (w_1.a.length : Int)) (ev_len (xs := w_1.a) rfl) ?_
  refine g_v0 (.int .i64 0) rfl rfl ?_
  refine g_end ?_
  refine e_end ?_
  refine renew [(1, (.int .i64 set_2)), (4, (.int .i64 0)), (5, (.int .i64 set_2)), (10, (Enc.enc (w_1.a : List Int))), (11, (.int .i64 (w_1.a.length : Int))), (12, (.int .i64 0))] ⟨h1, h4, h5, rfl, rfl, rfl⟩ ?_
  rintro s ⟨h1, h4, h5, h10, h11, h12⟩
  refine .nsq ?_
  refine .block ?_
  refine .loop ?_
  exact t_f119_l1 H set_2 w_1 F set_2 0 _ ⟨h1, h4, h5, h10, h11, h12⟩ h
end
def e119 (F : Nat) : Ent := ⟨119, dn2 (i_net_around F) (fun (r : Int) => (Enc.enc (r : Int))), 0, false⟩
theorem o119 {D : Den} {σ : Sig} {F : Nat} (hF : Fits2 Try.prog D σ) (H : H119 D σ F) : (e119 F).Ok Try.prog := by
  refine ⟨fun args r h => ?_, ⟨Try.f119, Try.func119, rfl, rfl⟩⟩
  obtain ⟨x0, x1, y, rfl, hy, rfl⟩ := dn2_open h
  exact contract_run hF (by kernel_rfl) Try.func119 rfl c119 (show 2 ≤ Try.f119.ntmps by decide) (t119 H x0 x1 _ ⟨rfl, rfl⟩ hy)
/- (loop.example/g01109/impl.net).parts -/
def A76_2 : AC := (AC.cond (O.t 9) AC.skip (AC.exit 0))
def A76_7 : AC := (AC.cond (O.t 21) (AC.exit 2) AC.skip)
def A76_8 : AC := (AC.reg [] [(I.mk (some 22) none false (X.v (A.mov (O.t 7)))), (I.mk (some 6) none false (X.v (A.mov (O.t 22))))] [])
def A76_6 : AC := (AC.seq (AC.seq (AC.reg [] [(I.mk (some 19) none false (X.v (A.mov (O.t 7)))), (I.mk (some 20) none false (X.v (A.mov (O.t 6)))), (I.mk (some 21) none false (X.v (A.bin BinOp.eql (O.t 19) (O.t 20))))] []) A76_7) A76_8)
def A76_5 : AC := (AC.block 3 (AC.seq (AC.reg [] [(I.mk (some 14) none false (X.v (A.load (Sh.ag [Sh.p]) (O.t 2)))), (I.mk (some 15) none false (X.v (A.mov (O.t 6)))), (I.mk (some 16) none false (X.call (O.k (V.fn 119 [] [])) [(O.t 14), (O.t 15)])), (I.mk (some 17) none false (X.v (A.mov (O.t 1)))), (I.mk (some 18) none false (X.v (A.bin BinOp.and (O.t 16) (O.t 17)))), (I.mk (some 7) none false (X.v (A.mov (O.t 18))))] []) A76_6))
def A76_10 : AC := (AC.reg [] [(I.mk (some 27) none false (X.v (A.mov (O.t 1)))), (I.mk (some 28) none false (X.v (A.mov (O.t 6)))), (I.mk (some 29) none false (X.v (A.bin BinOp.andNot (O.t 27) (O.t 28)))), (I.mk (some 1) none false (X.v (A.mov (O.t 29))))] [])
def A76_9 : AC := (AC.seq (AC.reg [.clr [25, 26]] [(I.mk (some 23) none false (X.v (A.mov (O.t 5)))), (I.mk (some 24) none false (X.v (A.mov (O.t 6)))), (I.mk (some 25) none false (X.lit (V.int IntKind.i64 (Int.ofNat 0)) 1 [(0, 0, (O.t 24))])), (I.mk (some 26) none false (X.app Sh.s (O.t 23) (O.t 25))), (I.mk (some 5) none false (X.v (A.mov (O.t 26))))] [.home 26 5]) A76_10)
def A76_4 : AC := (AC.seq (AC.block 2 (AC.loop A76_5)) A76_9)
def A76_3 : AC := (AC.block 1 (AC.seq (AC.reg [] [(I.mk (some 10) none false (X.v (A.mov (O.t 1)))), (I.mk (some 11) none false (X.v (A.mov (O.t 1)))), (I.mk (some 12) none false (X.v (A.un UnOp.neg (O.t 11)))), (I.mk (some 13) none false (X.v (A.bin BinOp.and (O.t 10) (O.t 12)))), (I.mk (some 6) none false (X.v (A.mov (O.t 13))))] []) A76_4))
def A76_1 : AC := (AC.seq (AC.seq (AC.reg [] [(I.mk (some 8) none false (X.v (A.mov (O.t 1)))), (I.mk (some 9) none false (X.v (A.bin BinOp.neq (O.t 8) (O.k (V.int IntKind.i64 (Int.ofNat 0))))))] []) A76_2) A76_3)
def A76_11 : AC := (AC.seq (AC.reg [] [(I.mk (some 30) none false (X.v (A.mov (O.t 5)))), (I.mk (some 4) none false (X.v (A.mov (O.t 30))))] [.home 5 4]) AC.ret)
def A76_13 : AC := (AC.seq (AC.block 0 (AC.loop A76_1)) A76_11)
def A76_12 : AC := (AC.seq (AC.reg [] [(I.mk (some 5) none false (X.v (A.mov (O.k (V.sl Tok.nl Sh.s 0 [])))))] []) A76_13)
def A76 : AC := (AC.seq (AC.reg [.clr [2]] [(I.mk (some 2) none false (X.box (O.t 0))), (I.mk (some 4) none false (X.v (A.mov (O.k (V.sl Tok.nl Sh.s 0 [])))))] []) A76_12)
def an76 : List An := [{ id := 0, pre := [.clr [2]], ep := [], lin := [], sp := [] }, { id := 7, pre := [.clr [25, 26]], ep := [.home 26 5], lin := [], sp := [] }, { id := 9, pre := [], ep := [.home 5 4], lin := [], sp := [] }]
theorem c76 : cC Try.prog Try.f76.ntmps an76 (Try.f76.body.getD .skip) = some A76 := by kernel_rfl
structure H76 (D : Den) (σ : Sig) (F : Nat) : Prop where
  c119 : ∀ x0 x1 r, i_net_around F x0 x1 = some r → D 119 [Enc.enc x0, Enc.enc x1] = some (Enc.enc (r : Int))
  g119 : σ 119 = some (0, false)
abbrev R76 (r : (List Int)) : (Nat → V) → Prop := RR Try.prog [.tmp 4] 0 true (Enc.enc (r : (List Int)))
section
variable {D : Den} {σ : Sig} {F : Nat} {r : (List Int)}
def i_net_parts_l1 (F : Nat) (set_8 : Int) (w_1 : (S1 (List Int))) (parts_9 : (NL Int)) (c1 : Int → (NL Int) → Option (List Int)) : Nat → Int → Option (List Int)
  | 0, _ => none
  | k + 1, part_16 =>
    (i_net_around F w_1 part_16).bind fun r_18 =>
    bif ((iand .i64 r_18 set_8) == part_16) then
      (appL parts_9.list [part_16]).bind fun ap_19 =>
      c1 (iandNot .i64 set_8 part_16) (.of ap_19)
    else
      (i_net_parts_l1 F set_8 w_1 parts_9 c1 k) (iand .i64 r_18 set_8)
theorem t_f76_l1 (H : H76 D σ F) (set_8 : Int) (w_1 : (S1 (List Int))) (parts_9 : (NL Int)) (c1 : Int → (NL Int) → Option (List Int)) (Hc1 : ∀ (set_8 : Int) (parts_9 : (NL Int)) (s : Nat → V), Facts [(1, (.int .i64 set_8)), (2, (.ref (.bx 2) 0 [] (.agg [(Enc.enc (w_1.a : List Int))]))), (4, (.sl .nl (Enc.shp Int) 0 [])), (5, (encO (.at 5 []) (parts_9 : NL Int)))] s → c1 set_8 parts_9 = some r → Run D σ (R76 r) (.run A76_1 [.lp A76_1, .bk 0, .sq A76_11]) s) : ∀ (k : Nat) (part_16 : Int) (s : Nat → V), Facts [(1, (.int .i64 set_8)), (2, (.ref (.bx 2) 0 [] (.agg [(Enc.enc (w_1.a : List Int))]))), (4, (.sl .nl (Enc.shp Int) 0 [])), (5, (encO (.at 5 []) (parts_9 : NL Int))), (6, (.int .i64 part_16))] s → i_net_parts_l1 F set_8 w_1 parts_9 c1 k part_16 = some r → Run D σ (R76 r) (.run A76_5 [.lp A76_5, .bk 2, .sq A76_9, .bk 1, .lp A76_1, .bk 0, .sq A76_11]) s := by
  intro k
  induction k with
  | zero => intro part_16 s _ h; exact nomatch (h : (none : Option _) = some r)
  | succ k ih =>
    intro part_16 s hs h
    rw [i_net_parts_l1] at h
    obtain ⟨h1, h2, h4, h5, h6⟩ := hs
    refine .block ?_
    refine .seq ?_
    refine run_reg ?_
    refine e_end ?_
    refine g_v1 (t := 2) (u := (.ref (.bx 2) 0 [] (.agg [(Enc.enc (w_1.a : List Int))]))) (.agg [(Enc.enc (w_1.a : List Int))]) h2 rfl rfl ?_
    refine g_v1 (t := 6) (u := (.int .i64 part_16)) (.int .i64 part_16) h6 rfl rfl ?_
    obtain ⟨r_18, E_r_18, h⟩ := bind_some h
    refine g_call (m := 0) (al := false) (r := (Enc.enc (r_18 : Int))) [Enc.enc (w_1 : (S1 (List Int))), Enc.enc (part_16 : Int)] (ta_cons (v := (.agg [(Enc.enc (w_1.a : List Int))])) rfl rfl (Enc.erase_enc (w_1 : (S1 (List Int)))) (ta_cons (v := (.int .i64 part_16)) rfl rfl rfl ta_nil)) (H.c119 _ _ _ E_r_18) H.g119 rfl rfl rfl rfl ?_
    refine g_v1 (t := 1) (u := (.int .i64 set_8)) (.int .i64 set_8) h1 rfl rfl ?_
    refine g_v2 (t1 := 16) (t2 := 17) (u1 := (.int .i64 r_18)) (u2 := (.int .i64 set_8)) (.int .i64 (iand .i64 r_18 set_8)) rfl rfl rfl rfl ?_
    refine g_v1 (t := 18) (u := (.int .i64 (iand .i64 r_18 set_8))) (.int .i64 (iand .i64 r_18 set_8)) rfl rfl rfl ?_
    refine g_end ?_
    refine e_end ?_
    refine renew [(1, (.int .i64 set_8)), (2, (.ref (.bx 2) 0 [] (.agg [(Enc.enc (w_1.a : List Int))]))), (4, (.sl .nl (Enc.shp Int) 0 [])), (5, (encO (.at 5 []) (parts_9 : NL Int))), (6, (.int .i64 part_16)), (7, (.int .i64 (iand .i64 r_18 set_8)))] ⟨h1, h2, h4, h5, h6, rfl⟩ ?_
    rintro s ⟨h1, h2, h4, h5, h6, h7⟩
    refine .nsq ?_
    refine .seq ?_
    refine .seq ?_
    refine run_reg ?_
    refine e_end ?_
    refine g_v1 (t := 7) (u := (.int .i64 (iand .i64 r_18 set_8))) (.int .i64 (iand .i64 r_18 set_8)) h7 rfl rfl ?_
    refine g_v1 (t := 6) (u := (.int .i64 part_16)) (.int .i64 part_16) h6 rfl rfl ?_
    refine g_v2 (t1 := 19) (t2 := 20) (u1 := (.int .i64 (iand .i64 r_18 set_8))) (u2 := (.int .i64 part_16)) (.bool ((iand .i64 r_18 set_8) == part_16)) rfl rfl rfl rfl ?_
    refine g_end ?_
    refine e_end ?_
    refine renew [(1, (.int .i64 set_8)), (2, (.ref (.bx 2) 0 [] (.agg [(Enc.enc (w_1.a : List Int))]))), (4, (.sl .nl (Enc.shp Int) 0 [])), (5, (encO (.at 5 []) (parts_9 : NL Int))), (6, (.int .i64 part_16)), (7, (.int .i64 (iand .i64 r_18 set_8))), (21, (.bool ((iand .i64 r_18 set_8) == part_16)))] ⟨h1, h2, h4, h5, h6, h7, rfl⟩ ?_
    rintro s ⟨h1, h2, h4, h5, h6, h7, h21⟩
    refine .nsq ?_
    refine run_cond (t := ((iand .i64 r_18 set_8) == part_16)) h21 h (fun h => ?_) (fun h => ?_)
    · refine .exit ?_
      refine .esq ?_
      refine .ebn (by decide) ?_
      refine .elp ?_
      refine .ebk ?_
      refine .nsq ?_
      refine .seq ?_
      refine run_reg ?_
      refine e_clr ?_
      refine e_end ?_
      refine g_v (encO (.at 5 []) (parts_9 : NL Int)) (ev_mov (keep_clear (s := s) (pk := [25, 26]) h5 rfl (map_encO (r := 5) (p := []) rfl rfl)) ok_encO) ?_
      refine g_v1 (t := 6) (u := (.int .i64 part_16)) (.int .i64 part_16) (keep_clear (s := s) (pk := [25, 26]) h6 rfl rfl) rfl rfl ?_
      refine g_litL [(24, (.int .i64 part_16))] [Enc.enc (part_16 : Int)] rfl rfl rfl (gone_clear (s := s) (pk := [25, 26]) (t := 25) rfl) ?_
      obtain ⟨ap_19, E_ap_19, h⟩ := bind_some h
      refine g_app (q := 5) (p := []) (o := (parts_9 : NL Int)) (ys := ([part_16] : List Int)) (t2 := (.at 25 [])) (lo2 := 0) rfl rfl rfl (gone_clear (s := s) (pk := [25, 26]) (t := 26) rfl) (appN_L (o := (parts_9 : NL Int)) E_ap_19 (by split <;> simp)) (fun s_9 ha_9 => ?_)
      refine g_v1 (t := 26) (u := (encO (.at 26 []) (.of (ap_19 : List Int)))) (encO (.at 26 []) (.of (ap_19 : List Int))) rfl rfl rfl ?_
      refine g_end ?_
      refine e_home (r := 26) (x := 5) (v := (encO (.at 26 []) (.of (ap_19 : List Int)))) (by exact rfl) rfl (fun s_10 hg_10 => ?_)
      refine e_end ?_
      refine renew [(1, (.int .i64 set_8)), (2, (.ref (.bx 2) 0 [] (.agg [(Enc.enc (w_1.a : List Int))]))), (4, (.sl .nl (Enc.shp Int) 0 [])), (5, (encO (.at 5 []) (.of (ap_19 : List Int)))), (6, (.int .i64 part_16))] ⟨(hg_10 1 (.int .i64 set_8) (.int .i64 set_8) (show s_9 1 = (.int .i64 set_8) from keep_app ha_9 (keep_clear (s := s) (pk := [25, 26]) h1 rfl rfl) rfl) rfl), (hg_10 2 (.ref (.bx 2) 0 [] (.agg [(Enc.enc (w_1.a : List Int))])) (.ref (.bx 2) 0 [] (.agg [(Enc.enc (w_1.a : List Int))])) (show s_9 2 = (.ref (.bx 2) 0 [] (.agg [(Enc.enc (w_1.a : List Int))])) from keep_app ha_9 (keep_clear (s := s) (pk := [25, 26]) h2 rfl (map_bx rfl (map_agg (maps_cons (Enc.map_enc _ (w_1.a : List Int)) maps_nil)))) (map_bx rfl (map_agg (maps_cons (Enc.map_enc _ (w_1.a : List Int)) maps_nil)))) (map_bx rfl (map_agg (maps_cons (Enc.map_enc _ (w_1.a : List Int)) maps_nil)))), (hg_10 4 (.sl .nl (Enc.shp Int) 0 []) (.sl .nl (Enc.shp Int) 0 []) (show s_9 4 = (.sl .nl (Enc.shp Int) 0 []) from keep_app ha_9 (keep_clear (s := s) (pk := [25, 26]) h4 rfl rfl) rfl) rfl), (hg_10 5 (encO (.at 26 []) (.of (ap_19 : List Int))) (encO (.at 5 []) (.of (ap_19 : List Int))) rfl (map_encO (r := 26) (p := []) rfl rfl)), (hg_10 6 (.int .i64 part_16) (.int .i64 part_16) (show s_9 6 = (.int .i64 part_16) from keep_app ha_9 (keep_clear (s := s) (pk := [25, 26]) h6 rfl rfl) rfl) rfl)⟩ ?_
      rintro s ⟨h1, h2, h4, h5, h6⟩
      refine .nsq ?_
      refine run_reg ?_
      refine e_end ?_
      refine g_v1 (t := 1) (u := (.int .i64 set_8)) (.int .i64 set_8) h1 rfl rfl ?_
      refine g_v1 (t := 6) (u := (.int .i64 part_16)) (.int .i64 part_16) h6 rfl rfl ?_
      refine g_v2 (t1 := 27) (t2 := 28) (u1 := (.int .i64 set_8)) (u2 := (.int .i64 part_16)) (.int .i64 (iandNot .i64 set_8 part_16)) rfl rfl rfl rfl ?_
      refine g_v1 (t := 29) (u := (.int .i64 (iandNot .i64 set_8 part_16))) (.int .i64 (iandNot .i64 set_8 part_16)) rfl rfl rfl ?_
      refine g_end ?_
      refine e_end ?_
      refine renew [(1, (.int .i64 (iandNot .i64 set_8 part_16))), (2, (.ref (.bx 2) 0 [] (.agg [(Enc.enc (w_1.a : List Int))]))), (4, (.sl .nl (Enc.shp Int) 0 [])), (5, (encO (.at 5 []) (.of (ap_19 : List Int))))] ⟨rfl, h2, h4, h5⟩ ?_
      rintro s ⟨h1, h2, h4, h5⟩
      refine .nbk ?_
      refine .nlp ?_
      exact Hc1 (iandNot .i64 set_8 part_16) (.of ap_19) _ ⟨h1, h2, h4, h5⟩ h
    · refine .skip ?_
      refine .nsq ?_
      refine run_reg ?_
      refine e_end ?_
      refine g_v1 (t := 7) (u := (.int .i64 (iand .i64 r_18 set_8))) (.int .i64 (iand .i64 r_18 set_8)) h7 rfl rfl ?_
      refine g_v1 (t := 22) (u := (.int .i64 (iand .i64 r_18 set_8))) (.int .i64 (iand .i64 r_18 set_8)) rfl rfl rfl ?_
      refine g_end ?_
      refine e_end ?_
      refine renew [(1, (.int .i64 set_8)), (2, (.ref (.bx 2) 0 [] (.agg [(Enc.enc (w_1.a : List Int))]))), (4, (.sl .nl (Enc.shp Int) 0 [])), (5, (encO (.at 5 []) (parts_9 : NL Int))), (6, (.int .i64 (iand .i64 r_18 set_8)))] ⟨h1, h2, h4, h5, rfl⟩ ?_
      rintro s ⟨h1, h2, h4, h5, h6⟩
      refine .nbk ?_
      refine .nlp ?_
      exact ih (iand .i64 r_18 set_8) _ ⟨h1, h2, h4, h5, h6⟩ h
def i_net_parts_l2 (F : Nat) (w_1 : (S1 (List Int)))  : Nat → Int → (NL Int) → Option (List Int)
  | 0, _, _ => none
  | k + 1, set_8, parts_9 =>
    bif (set_8 != 0) then
      i_net_parts_l1 F set_8 w_1 parts_9 (i_net_parts_l2 F w_1 k) F (iand .i64 set_8 (w64 (0 - set_8)))
    else
      some parts_9.list
theorem t_f76_l2 (H : H76 D σ F) (w_1 : (S1 (List Int)))  : ∀ (k : Nat) (set_8 : Int) (parts_9 : (NL Int)) (s : Nat → V), Facts [(1, (.int .i64 set_8)), (2, (.ref (.bx 2) 0 [] (.agg [(Enc.enc (w_1.a : List Int))]))), (4, (.sl .nl (Enc.shp Int) 0 [])), (5, (encO (.at 5 []) (parts_9 : NL Int)))] s → i_net_parts_l2 F w_1 k set_8 parts_9 = some r → Run D σ (R76 r) (.run A76_1 [.lp A76_1, .bk 0, .sq A76_11]) s := by
  intro k
  induction k with
  | zero => intro set_8 parts_9 s _ h; exact nomatch (h : (none : Option _) = some r)
  | succ k ih =>
    intro set_8 parts_9 s hs h
    rw [i_net_parts_l2] at h
    obtain ⟨h1, h2, h4, h5⟩ := hs
    refine .seq ?_
    refine .seq ?_
    refine run_reg ?_
    refine e_end ?_
    refine g_v1 (t := 1) (u := (.int .i64 set_8)) (.int .i64 set_8) h1 rfl rfl ?_
    refine g_v1 (t := 8) (u := (.int .i64 set_8)) (.bool (set_8 != 0)) rfl rfl rfl ?_
    refine g_end ?_
    refine e_end ?_
    refine renew [(1, (.int .i64 set_8)), (2, (.ref (.bx 2) 0 [] (.agg [(Enc.enc (w_1.a : List Int))]))), (4, (.sl .nl (Enc.shp Int) 0 [])), (5, (encO (.at 5 []) (parts_9 : NL Int))), (9, (.bool (set_8 != 0)))] ⟨h1, h2, h4, h5, rfl⟩ ?_
    rintro s ⟨h1, h2, h4, h5, h9⟩
    refine .nsq ?_
    refine run_cond (t := (set_8 != 0)) h9 h (fun h => ?_) (fun h => ?_)
    · refine .skip ?_
      refine .nsq ?_
      refine .block ?_
      refine .seq ?_
      refine run_reg ?_
      refine e_end ?_
      refine g_v1 (t := 1) (u := (.int .i64 set_8)) (.int .i64 set_8) h1 rfl rfl ?_
      refine g_v1 (t := 1) (u := (.int .i64 set_8)) (.int .i64 set_8) h1 rfl rfl ?_
      refine g_v1 (t := 11) (u := (.int .i64 set_8)) (.int .i64 (w64 (0 - set_8))) rfl rfl rfl ?_
      refine g_v2 (t1 := 10) (t2 := 12) (u1 := (.int .i64 set_8)) (u2 := (.int .i64 (w64 (0 - set_8)))) (.int .i64 (iand .i64 set_8 (w64 (0 - set_8)))) rfl rfl rfl rfl ?_
      refine g_v1 (t := 13) (u := (.int .i64 (iand .i64 set_8 (w64 (0 - set_8))))) (.int .i64 (iand .i64 set_8 (w64 (0 - set_8)))) rfl rfl rfl ?_
      refine g_end ?_
      refine e_end ?_
      refine renew [(1, (.int .i64 set_8)), (2, (.ref (.bx 2) 0 [] (.agg [(Enc.enc (w_1.a : List Int))]))), (4, (.sl .nl (Enc.shp Int) 0 [])), (5, (encO (.at 5 []) (parts_9 : NL Int))), (6, (.int .i64 (iand .i64 set_8 (w64 (0 - set_8)))))] ⟨h1, h2, h4, h5, rfl⟩ ?_
      rintro s ⟨h1, h2, h4, h5, h6⟩
      refine .nsq ?_
      refine .seq ?_
      refine .block ?_
      refine .loop ?_
      exact t_f76_l1 H set_8 w_1 parts_9 (i_net_parts_l2 F w_1 k) ih F (iand .i64 set_8 (w64 (0 - set_8))) _ ⟨h1, h2, h4, h5, h6⟩ h
    · refine .exit ?_
      refine .esq ?_
      refine .elp ?_
      refine .ebk ?_
      refine .nsq ?_
      refine .seq ?_
      refine run_reg ?_
      refine e_end ?_
      refine g_v (encO (.at 5 []) (parts_9 : NL Int)) (ev_mov h5 ok_encO) ?_
      refine g_v (encO (.at 5 []) (parts_9 : NL Int)) (ev_mov rfl ok_encO) ?_
      refine g_end ?_
      refine e_home (r := 5) (x := 4) (v := (encO (.at 5 []) (parts_9 : NL Int))) (by exact rfl) ok_encO (fun s_11 hg_11 => ?_)
      refine e_end ?_
      refine renew [(4, (encO (.at 4 []) (parts_9 : NL Int)))] (hg_11 4 (encO (.at 5 []) (parts_9 : NL Int)) (encO (.at 4 []) (parts_9 : NL Int)) rfl (map_encO (r := 5) (p := []) rfl rfl)) ?_
      rintro s h4
      refine .nsq ?_
      refine .ret ?_
      have hr := Option.some.inj h
      subst hr
      exact rrA (res_tmp h4) (fin_ret1 (fin_own (o := parts_9)))
def i_net_parts (F : Nat) (w_1 : (S1 (List Int))) (set_2 : Int) : Option (List Int) :=
  i_net_parts_l2 F w_1 F set_2 .nil
theorem t76 (H : H76 D σ F) (w_1 : (S1 (List Int))) (set_2 : Int) (s : Nat → V) (hs : Facts [(0, (.agg [(Enc.enc (w_1.a : List Int))])), (1, (.int .i64 set_2))] s) (h : i_net_parts F w_1 set_2 = some r) : Run D σ (R76 r) (.run A76 []) s := by
  unfold i_net_parts at h
  obtain ⟨h0, h1⟩ := hs
  refine .seq ?_
  refine run_reg ?_
  refine e_clr ?_
  refine e_end ?_
  refine g_box (.agg [(Enc.enc (w_1.a : List Int))]) (rd_of (keep_clear (s := s) (pk := [2]) h0 rfl (map_agg (maps_cons (Enc.map_enc _ (w_1.a : List Int)) maps_nil))) rfl) (gone_clear (s := s) (pk := [2]) (t := 2) rfl) rfl ?_
  refine g_v0 (.sl .nl (Enc.shp Int) 0 []) rfl rfl ?_
  refine g_end ?_
  refine e_end ?_
  refine renew [(1, (.int .i64 set_2)), (2, (.ref (.bx 2) 0 [] (.agg [(Enc.enc (w_1.a : List Int))]))), (4, (.sl .nl (Enc.shp Int) 0 []))] ⟨(keep_clear (s := s) (pk := [2]) h1 rfl rfl), rfl, rfl⟩ ?_
  rintro s ⟨h1, h2, h4⟩
  refine .nsq ?_
  refine .seq ?_
  refine run_reg ?_
  refine e_end ?_
  refine g_v0 (.sl .nl (Enc.shp Int) 0 []) rfl rfl ?_
  refine g_end ?_
  refine e_end ?_
  refine renew [(1, (.int .i64 set_2)), (2, (.ref (.bx 2) 0 [] (.agg [(Enc.enc (w_1.a : List Int))]))), (4, (.sl .nl (Enc.shp Int) 0 [])), (5, (.sl .nl (Enc.shp Int) 0 []))] ⟨h1, h2, h4, rfl⟩ ?_
  rintro s ⟨h1, h2, h4, h5⟩
  refine .nsq ?_
  refine .seq ?_
  refine .block ?_
  refine .loop ?_
  exact t_f76_l2 H w_1 F set_2 .nil _ ⟨h1, h2, h4, h5⟩ h
end
def e76 (F : Nat) : Ent := ⟨76, dn2 (i_net_parts F) (fun (r : (List Int)) => (Enc.enc (r : (List Int)))), 0, true⟩
theorem o76 {D : Den} {σ : Sig} {F : Nat} (hF : Fits2 Try.prog D σ) (H : H76 D σ F) : (e76 F).Ok Try.prog := by
  refine ⟨fun args r h => ?_, ⟨Try.f76, Try.func76, rfl, rfl⟩⟩
  obtain ⟨x0, x1, y, rfl, hy, rfl⟩ := dn2_open h
  exact contract_run hF (by kernel_rfl) Try.func76 rfl c76 (show 2 ≤ Try.f76.ntmps by decide) (t76 H x0 x1 _ ⟨rfl, rfl⟩ hy)
/- loop.example/g01109/impl.setOf -/
def A121_2 : AC := (AC.cond (O.t 8) AC.skip (AC.exit 0))
def A121_4 : AC := (AC.cond (O.t 15) (AC.reg [.clr [18, 19]] [(I.mk (some 16) none false (X.v (A.mov (O.t 3)))), (I.mk (some 17) none false (X.v (A.mov (O.t 4)))), (I.mk (some 18) none false (X.lit (V.int IntKind.i64 (Int.ofNat 0)) 1 [(0, 0, (O.t 17))])), (I.mk (some 19) none false (X.app Sh.s (O.t 16) (O.t 18))), (I.mk (some 3) none false (X.v (A.mov (O.t 19))))] [.home 19 3]) AC.skip)
def A121_5 : AC := (AC.reg [] [(I.mk (some 9) none false (X.v (A.mov (O.t 4)))), (I.mk (some 10) none false (X.v (A.bin BinOp.add (O.t 9) (O.k (V.int IntKind.i64 (Int.ofNat 1)))))), (I.mk (some 4) none false (X.v (A.mov (O.t 10))))] [])
def A121_3 : AC := (AC.seq (AC.block 1 (AC.seq (AC.reg [] [(I.mk (some 11) none false (X.v (A.mov (O.t 0)))), (I.mk (some 12) none false (X.v (A.mov (O.t 4)))), (I.mk (some 13) none false (X.v (A.bin BinOp.shr (O.t 11) (O.t 12)))), (I.mk (some 14) none false (X.v (A.bin BinOp.and (O.t 13) (O.k (V.int IntKind.i64 (Int.ofNat 1)))))), (I.mk (some 15) none false (X.v (A.bin BinOp.eql (O.t 14) (O.k (V.int IntKind.i64 (Int.ofNat 1))))))] []) A121_4)) A121_5)
def A121_1 : AC := (AC.seq (AC.seq (AC.reg [] [(I.mk (some 5) none false (X.v (A.mov (O.t 0)))), (I.mk (some 6) none false (X.v (A.mov (O.t 4)))), (I.mk (some 7) none false (X.v (A.bin BinOp.shr (O.t 5) (O.t 6)))), (I.mk (some 8) none false (X.v (A.bin BinOp.neq (O.t 7) (O.k (V.int IntKind.i64 (Int.ofNat 0))))))] []) A121_2) A121_3)
def A121_6 : AC := (AC.seq (AC.reg [] [(I.mk (some 20) none false (X.v (A.mov (O.t 3)))), (I.mk (some 2) none false (X.v (A.mov (O.t 20))))] [.home 3 2]) AC.ret)
def A121_9 : AC := (AC.block 0 (AC.loop A121_1))
def A121_8 : AC := (AC.seq (AC.seq (AC.reg [] [(I.mk (some 4) none false (X.v (A.mov (O.k (V.int IntKind.i64 (Int.ofNat 0))))))] []) A121_9) A121_6)
def A121_7 : AC := (AC.seq (AC.reg [] [(I.mk (some 3) none false (X.v (A.mov (O.k (V.sl Tok.nl Sh.s 0 [])))))] []) A121_8)
def A121 : AC := (AC.seq (AC.reg [] [(I.mk (some 2) none false (X.v (A.mov (O.k (V.sl Tok.nl Sh.s 0 [])))))] []) A121_7)
def an121 : List An := [{ id := 6, pre := [.clr [18, 19]], ep := [.home 19 3], lin := [], sp := [] }, { id := 7, pre := [], ep := [.home 3 2], lin := [], sp := [] }]
theorem c121 : cC Try.prog Try.f121.ntmps an121 (Try.f121.body.getD .skip) = some A121 := by kernel_rfl
structure H121 (D : Den) (σ : Sig) (F : Nat) : Prop where
  mk ::
abbrev R121 (r : (List Int)) : (Nat → V) → Prop := RR Try.prog [.tmp 2] 0 true (Enc.enc (r : (List Int)))
section
variable {D : Den} {σ : Sig} {F : Nat} {r : (List Int)}
def i_setOf_j1 (F : Nat) (set_1 : Int) (x_8 : Int) (c1 : (NL Int) → Int → Option (List Int)) (list_17 : (NL Int)) : Option (List Int) :=
  c1 list_17 (w64 (x_8 + 1))
theorem t_f121_j1 (H : H121 D σ F) (set_1 : Int) (x_8 : Int) (c1 : (NL Int) → Int → Option (List Int)) (Hc1 : ∀ (list_7 : (NL Int)) (x_8 : Int) (s : Nat → V), Facts [(0, (.int .i64 set_1)), (2, (.sl .nl (Enc.shp Int) 0 [])), (3, (encO (.at 3 []) (list_7 : NL Int))), (4, (.int .i64 x_8))] s → c1 list_7 x_8 = some r → Run D σ (R121 r) (.run A121_1 [.lp A121_1, .bk 0, .sq A121_6]) s) (list_17 : (NL Int)) (s : Nat → V) (hs : Facts [(0, (.int .i64 set_1)), (2, (.sl .nl (Enc.shp Int) 0 [])), (3, (encO (.at 3 []) (list_17 : NL Int))), (4, (.int .i64 x_8))] s) (h : i_setOf_j1 F set_1 x_8 c1 list_17 = some r) : Run D σ (R121 r) (.nrm [.bk 1, .sq A121_5, .lp A121_1, .bk 0, .sq A121_6]) s := by
  unfold i_setOf_j1 at h
  obtain ⟨h0, h2, h3, h4⟩ := hs
  refine .nbk ?_
  refine .nsq ?_
  refine run_reg ?_
  refine e_end ?_
  refine g_v1 (t := 4) (u := (.int .i64 x_8)) (.int .i64 x_8) h4 rfl rfl ?_
  refine g_v1 (t := 9) (u := (.int .i64 x_8)) (.int .i64 (w64 (x_8 + 1))) rfl rfl rfl ?_
  refine g_v1 (t := 10) (u := (.int .i64 (w64 (x_8 + 1)))) (.int .i64 (w64 (x_8 + 1))) rfl rfl rfl ?_
  refine g_end ?_
  refine e_end ?_
  refine renew [(0, (.int .i64 set_1)), (2, (.sl .nl (Enc.shp Int) 0 [])), (3, (encO (.at 3 []) (list_17 : NL Int))), (4, (.int .i64 (w64 (x_8 + 1))))] ⟨h0, h2, h3, rfl⟩ ?_
  rintro s ⟨h0, h2, h3, h4⟩
  refine .nlp ?_
  exact Hc1 list_17 (w64 (x_8 + 1)) _ ⟨h0, h2, h3, h4⟩ h
def i_setOf_l1 (F : Nat) (set_1 : Int)  : Nat → (NL Int) → Int → Option (List Int)
  | 0, _, _ => none
  | k + 1, list_7, x_8 =>
    (shrI .i64 set_1 x_8).bind fun q_14 =>
    bif (q_14 != 0) then
      (shrI .i64 set_1 x_8).bind fun q_15 =>
      bif ((iand .i64 q_15 1) == 1) then
        (appL list_7.list [x_8]).bind fun ap_18 =>
        i_setOf_j1 F set_1 x_8 (i_setOf_l1 F set_1 k) (.of ap_18)
      else
        i_setOf_j1 F set_1 x_8 (i_setOf_l1 F set_1 k) list_7
    else
      some list_7.list
theorem t_f121_l1 (H : H121 D σ F) (set_1 : Int)  : ∀ (k : Nat) (list_7 : (NL Int)) (x_8 : Int) (s : Nat → V), Facts [(0, (.int .i64 set_1)), (2, (.sl .nl (Enc.shp Int) 0 [])), (3, (encO (.at 3 []) (list_7 : NL Int))), (4, (.int .i64 x_8))] s → i_setOf_l1 F set_1 k list_7 x_8 = some r → Run D σ (R121 r) (.run A121_1 [.lp A121_1, .bk 0, .sq A121_6]) s := by
  intro k
  induction k with
  | zero => intro list_7 x_8 s _ h; exact nomatch (h : (none : Option _) = some r)
  | succ k ih =>
    intro list_7 x_8 s hs h
    rw [i_setOf_l1] at h
    obtain ⟨h0, h2, h3, h4⟩ := hs
    refine .seq ?_
    refine .seq ?_
    refine run_reg ?_
    refine e_end ?_
    refine g_v1 (t := 0) (u := (.int .i64 set_1)) (.int .i64 set_1) h0 rfl rfl ?_
    refine g_v1 (t := 4) (u := (.int .i64 x_8)) (.int .i64 x_8) h4 rfl rfl ?_
    obtain ⟨q_14, E_q_14, h⟩ := bind_some h
    refine g_v (.int .i64 q_14) (ev_shr rfl rfl E_q_14) ?_
    refine g_v1 (t := 7) (u := (.int .i64 q_14)) (.bool (q_14 != 0)) rfl rfl rfl ?_
    refine g_end ?_
    refine e_end ?_
    refine renew [(0, (.int .i64 set_1)), (2, (.sl .nl (Enc.shp Int) 0 [])), (3, (encO (.at 3 []) (list_7 : NL Int))), (4, (.int .i64 x_8)), (8, (.bool (q_14 != 0)))] ⟨h0, h2, h3, h4, rfl⟩ ?_
    rintro s ⟨h0, h2, h3, h4, h8⟩
    refine .nsq ?_
    refine run_cond (t := (q_14 != 0)) h8 h (fun h => ?_) (fun h => ?_)
    · refine .skip ?_
      refine .nsq ?_
      refine .seq ?_
      refine .block ?_
      refine .seq ?_
      refine run_reg ?_
      refine e_end ?_
      refine g_v1 (t := 0) (u := (.int .i64 set_1)) (.int .i64 set_1) h0 rfl rfl ?_
      refine g_v1 (t := 4) (u := (.int .i64 x_8)) (.int .i64 x_8) h4 rfl rfl ?_
      obtain ⟨q_15, E_q_15, h⟩ := bind_some h
      refine g_v (.int .i64 q_15) (ev_shr rfl rfl E_q_15) ?_
      refine g_v1 (t := 13) (u := (.int .i64 q_15)) (.int .i64 (iand .i64 q_15 1)) rfl rfl rfl ?_
      refine g_v1 (t := 14) (u := (.int .i64 (iand .i64 q_15 1))) (.bool ((iand .i64 q_15 1) == 1)) rfl rfl rfl ?_
      refine g_end ?_
      refine e_end ?_
      refine renew [(0, (.int .i64 set_1)), (2, (.sl .nl (Enc.shp Int) 0 [])), (3, (encO (.at 3 []) (list_7 : NL Int))), (4, (.int .i64 x_8)), (15, (.bool ((iand .i64 q_15 1) == 1)))] ⟨h0, h2, h3, h4, rfl⟩ ?_
      rintro s ⟨h0, h2, h3, h4, h15⟩
      refine .nsq ?_
      refine run_cond (t := ((iand .i64 q_15 1) == 1)) h15 h (fun h => ?_) (fun h => ?_)
      · refine run_reg ?_
        refine e_clr ?_
        refine e_end ?_
        refine g_v (encO (.at 3 []) (list_7 : NL Int)) (ev_mov (keep_clear (s := s) (pk := [18, 19]) h3 rfl (map_encO (r := 3) (p := []) rfl rfl)) ok_encO) ?_
        refine g_v1 (t := 4) (u := (.int .i64 x_8)) (.int .i64 x_8) (keep_clear (s := s) (pk := [18, 19]) h4 rfl rfl) rfl rfl ?_
        refine g_litL [(17, (.int .i64 x_8))] [Enc.enc (x_8 : Int)] rfl rfl rfl (gone_clear (s := s) (pk := [18, 19]) (t := 18) rfl) ?_
        obtain ⟨ap_18, E_ap_18, h⟩ := bind_some h
        refine g_app (q := 3) (p := []) (o := (list_7 : NL Int)) (ys := ([x_8] : List Int)) (t2 := (.at 18 [])) (lo2 := 0) rfl rfl rfl (gone_clear (s := s) (pk := [18, 19]) (t := 19) rfl) (appN_L (o := (list_7 : NL Int)) E_ap_18 (by split <;> simp)) (fun s_17 ha_17 => ?_)
        refine g_v1 (t := 19) (u := (encO (.at 19 []) (.of (ap_18 : List Int)))) (encO (.at 19 []) (.of (ap_18 : List Int))) rfl rfl rfl ?_
        refine g_end ?_
        refine e_home (r := 19) (x := 3) (v := (encO (.at 19 []) (.of (ap_18 : List Int)))) (by exact rfl) rfl (fun s_18 hg_18 => ?_)
        refine e_end ?_
        refine renew [(0, (.int .i64 set_1)), (2, (.sl .nl (Enc.shp Int) 0 [])), (3, (encO (.at 3 []) (.of (ap_18 : List Int)))), (4, (.int .i64 x_8))] ⟨(hg_18 0 (.int .i64 set_1) (.int .i64 set_1) (show s_17 0 = (.int .i64 set_1) from keep_app ha_17 (keep_clear (s := s) (pk := [18, 19]) h0 rfl rfl) rfl) rfl), (hg_18 2 (.sl .nl (Enc.shp Int) 0 []) (.sl .nl (Enc.shp Int) 0 []) (show s_17 2 = (.sl .nl (Enc.shp Int) 0 []) from keep_app ha_17 (keep_clear (s := s) (pk := [18, 19]) h2 rfl rfl) rfl) rfl), (hg_18 3 (encO (.at 19 []) (.of (ap_18 : List Int))) (encO (.at 3 []) (.of (ap_18 : List Int))) rfl (map_encO (r := 19) (p := []) rfl rfl)), (hg_18 4 (.int .i64 x_8) (.int .i64 x_8) (show s_17 4 = (.int .i64 x_8) from keep_app ha_17 (keep_clear (s := s) (pk := [18, 19]) h4 rfl rfl) rfl) rfl)⟩ ?_
        rintro s ⟨h0, h2, h3, h4⟩
        exact t_f121_j1 H set_1 x_8 (i_setOf_l1 F set_1 k) ih (.of ap_18) _ ⟨h0, h2, h3, h4⟩ h
      · refine .skip ?_
        exact t_f121_j1 H set_1 x_8 (i_setOf_l1 F set_1 k) ih list_7 _ ⟨h0, h2, h3, h4⟩ h
    · refine .exit ?_
      refine .esq ?_
      refine .elp ?_
      refine .ebk ?_
      refine .nsq ?_
      refine .seq ?_
      refine run_reg ?_
      refine e_end ?_
      refine g_v (encO (.at 3 []) (list_7 : NL Int)) (ev_mov h3 ok_encO) ?_
      refine g_v (encO (.at 3 []) (list_7 : NL Int)) (ev_mov rfl ok_encO) ?_
      refine g_end ?_
      refine e_home (r := 3) (x := 2) (v := (encO (.at 3 []) (list_7 : NL Int))) (by exact rfl) ok_encO (fun s_19 hg_19 => ?_)
      refine e_end ?_
      refine renew [(2, (encO (.at 2 []) (list_7 : NL Int)))] (hg_19 2 (encO (.at 3 []) (list_7 : NL Int)) (encO (.at 2 []) (list_7 : NL Int)) rfl (map_encO (r := 3) (p := []) rfl rfl)) ?_
      rintro s h2
      refine .nsq ?_
      refine .ret ?_
      have hr := Option.some.inj h
      subst hr
      exact rrA (res_tmp h2) (fin_ret1 (fin_own (o := list_7)))
def i_setOf (F : Nat) (set_1 : Int) : Option (List Int) :=
  i_setOf_l1 F set_1 F .nil 0
theorem t121 (H : H121 D σ F) (set_1 : Int) (s : Nat → V) (hs : Facts [(0, (.int .i64 set_1))] s) (h : i_setOf F set_1 = some r) : Run D σ (R121 r) (.run A121 []) s := by
  unfold i_setOf at h
  have h0 := hs
  refine .seq ?_
  refine run_reg ?_
  refine e_end ?_
  refine g_v0 (.sl .nl (Enc.shp Int) 0 []) rfl rfl ?_
  refine g_end ?_
  refine e_end ?_
  refine renew [(0, (.int .i64 set_1)), (2, (.sl .nl (Enc.shp Int) 0 []))] ⟨h0, rfl⟩ ?_
  rintro s ⟨h0, h2⟩
  refine .nsq ?_
  refine .seq ?_
  refine run_reg ?_
  refine e_end ?_
  refine g_v0 (.sl .nl (Enc.shp Int) 0 []) rfl rfl ?_
  refine g_end ?_
  refine e_end ?_
  refine renew [(0, (.int .i64 set_1)), (2, (.sl .nl (Enc.shp Int) 0 [])), (3, (.sl .nl (Enc.shp Int) 0 []))] ⟨h0, h2, rfl⟩ ?_
  rintro s ⟨h0, h2, h3⟩
  refine .nsq ?_
  refine .seq ?_
  refine .seq ?_
  refine run_reg ?_
  refine e_end ?_
  refine g_v0 (.int .i64 0) rfl rfl ?_
  refine g_end ?_
  refine e_end ?_
  refine renew [(0, (.int .i64 set_1)), (2, (.sl .nl (Enc.shp Int) 0 [])), (3, (.sl .nl (Enc.shp Int) 0 [])), (4, (.int .i64 0))] ⟨h0, h2, h3, rfl⟩ ?_
  rintro s ⟨h0, h2, h3, h4⟩
  refine .nsq ?_
  refine .block ?_
  refine .loop ?_
  exact t_f121_l1 H set_1 F .nil 0 _ ⟨h0, h2, h3, h4⟩ h
end
def e121 (F : Nat) : Ent := ⟨121, dn1 (i_setOf F) (fun (r : (List Int)) => (Enc.enc (r : (List Int)))), 0, true⟩
theorem o121 {D : Den} {σ : Sig} {F : Nat} (hF : Fits2 Try.prog D σ) (H : H121 D σ F) : (e121 F).Ok Try.prog := by
  refine ⟨fun args r h => ?_, ⟨Try.f121, Try.func121, rfl, rfl⟩⟩
  obtain ⟨x0, y, rfl, hy, rfl⟩ := dn1_open h
  exact contract_run hF (by kernel_rfl) Try.func121 rfl c121 (show 1 ≤ Try.f121.ntmps by decide) (t121 H x0 _ rfl hy)
/- (loop.example/g01109/impl.net).bestRoot -/
def A113_5 : AC := (AC.cond (O.t 35) (AC.reg [] [(I.mk (some 36) none false (X.v (A.mov (O.t 9)))), (I.mk (some 7) none false (X.v (A.mov (O.t 36))))] []) AC.skip)
def A113_4 : AC := (AC.seq (AC.reg [] [(I.mk (some 17) none false (X.v (A.mov (O.t 7)))), (I.mk (some 18) none false (X.v (A.bin BinOp.lss (O.t 17) (O.k (V.int IntKind.i64 (Int.ofNat 0)))))), (I.mk (some 19) none false (X.v (A.mov (O.t 18)))), (I.mk (some 20) (some (19, false)) false (X.v (A.mov (O.t 1)))), (I.mk (some 21) (some (19, false)) false (X.v (A.mov (O.t 2)))), (I.mk (some 22) (some (19, false)) false (X.v (A.mov (O.t 9)))), (I.mk (some 23) (some (19, false)) false (X.v (A.bin BinOp.shl (O.k (V.int IntKind.i64 (Int.ofNat 1))) (O.t 22)))), (I.mk (some 24) (some (19, false)) false (X.v (A.bin BinOp.andNot (O.t 21) (O.t 23)))), (I.mk (some 25) (some (19, false)) false (X.v (A.idx (O.t 20) (O.t 24) 1))), (I.mk (some 26) (some (19, false)) false (X.v (A.load Sh.s (O.t 25)))), (I.mk (some 27) (some (19, false)) false (X.v (A.mov (O.t 1)))), (I.mk (some 28) (some (19, false)) false (X.v (A.mov (O.t 2)))), (I.mk (some 29) (some (19, false)) false (X.v (A.mov (O.t 7)))), (I.mk (some 30) (some (19, false)) false (X.v (A.bin BinOp.shl (O.k (V.int IntKind.i64 (Int.ofNat 1))) (O.t 29)))), (I.mk (some 31) (some (19, false)) false (X.v (A.bin BinOp.andNot (O.t 28) (O.t 30)))), (I.mk (some 32) (some (19, false)) false (X.v (A.idx (O.t 27) (O.t 31) 1))), (I.mk (some 33) (some (19, false)) false (X.v (A.load Sh.s (O.t 32)))), (I.mk (some 34) (some (19, false)) false (X.v (A.bin BinOp.lss (O.t 26) (O.t 33)))), (I.mk (some 35) none false (X.v (A.pick (O.t 19) (O.k (V.bool true)) (O.t 34))))] []) A113_5)
def A113_6 : AC := (AC.reg [] [(I.mk (some 37) none false (X.v (A.bin BinOp.add (O.t 13) (O.k (V.int IntKind.i64 (Int.ofNat 1)))))), (I.mk (some 13) none false (X.v (A.mov (O.t 37))))] [])
def A113_3 : AC := (AC.seq (AC.block 1 (AC.seq (AC.reg [] [(I.mk (some 15) none false (X.v (A.idx (O.t 11) (O.t 13) 1))), (I.mk (some 16) none false (X.v (A.load Sh.s (O.t 15)))), (I.mk (some 9) none false (X.v (A.mov (O.t 16))))] []) A113_4)) A113_6)
def A113_2 : AC := (AC.seq (AC.cond (O.t 14) AC.skip (AC.exit 0)) A113_3)
def A113_1 : AC := (AC.seq (AC.reg [] [(I.mk (some 14) none false (X.v (A.bin BinOp.lss (O.t 13) (O.t 12))))] []) A113_2)
def A113_7 : AC := (AC.seq (AC.reg [] [(I.mk (some 38) none false (X.v (A.mov (O.t 7)))), (I.mk (some 6) none false (X.v (A.mov (O.t 38))))] []) AC.ret)
def A113_10 : AC := (AC.block 0 (AC.loop A113_1))
def A113_9 : AC := (AC.seq (AC.seq (AC.reg [] [(I.mk (some 10) none false (X.v (A.mov (O.t 2)))), (I.mk (some 11) none false (X.call (O.k (V.fn 121 [] [])) [(O.t 10)])), (I.mk (some 12) none false (X.v (A.len (O.t 11)))), (I.mk (some 13) none false (X.v (A.mov (O.k (V.int IntKind.i64 (Int.ofNat 0))))))] []) A113_10) A113_7)
def A113_8 : AC := (AC.seq (AC.reg [] [(I.mk (some 7) none false (X.v (A.mov (O.k (V.int IntKind.i64 (Int.negSucc 0))))))] []) A113_9)
def A113 : AC := (AC.seq (AC.reg [.clr [3]] [(I.mk (some 3) none false (X.box (O.t 0))), (I.mk (some 6) none false (X.v (A.mov (O.k (V.int IntKind.i64 (Int.ofNat 0))))))] []) A113_8)
def an113 : List An := [{ id := 0, pre := [.clr [3]], ep := [], lin := [], sp := [] }]
theorem c113 : cC Try.prog Try.f113.ntmps an113 (Try.f113.body.getD .skip) = some A113 := by kernel_rfl
structure H113 (D : Den) (σ : Sig) (F : Nat) : Prop where
  c121 : ∀ x0 r, i_setOf F x0 = some r → D 121 [Enc.enc x0] = some (Enc.enc (r : (List Int)))
  g121 : σ 121 = some (0, true)
abbrev R113 (r : Int) : (Nat → V) → Prop := RR Try.prog [.tmp 6] 0 false (Enc.enc (r : Int))
section
variable {D : Den} {σ : Sig} {F : Nat} {r : Int}
def i_net_bestRoot_j1 (F : Nat) (depths_2 : (List Int)) (set_3 : Int) (r_4 : (List Int)) (t13_17 : Int) (c1 : Int → Int → Option Int) (best_35 : Int) : Option Int :=
  c1 best_35 (w64 (t13_17 + 1))
theorem t_f113_j1 (H : H113 D σ F) (depths_2 : (List Int)) (set_3 : Int) (r_4 : (List Int)) (t13_17 : Int) (c1 : Int → Int → Option Int) (Hc1 : ∀ (best_16 : Int) (t13_17 : Int) (s : Nat → V), Facts [(1, (Enc.enc (depths_2 : List Int))), (2, (.int .i64 set_3)), (6, (.int .i64 0)), (7, (.int .i64 best_16)), (11, (Enc.enc (r_4 : List Int))), (12, (.int .i64 (r_4.length : Int))), (13, (.int .i64 t13_17))] s → c1 best_16 t13_17 = some r → Run D σ (R113 r) (.run A113_1 [.lp A113_1, .bk 0, .sq A113_7]) s) (best_35 : Int) (s : Nat → V) (hs : Facts [(1, (Enc.enc (depths_2 : List Int))), (2, (.int .i64 set_3)), (6, (.int .i64 0)), (7, (.int .i64 best_35)), (11, (Enc.enc (r_4 : List Int))), (12, (.int .i64 (r_4.length : Int))), (13, (.int .i64 t13_17))] s) (h : i_net_bestRoot_j1 F depths_2 set_3 r_4 t13_17 c1 best_35 = some r) : Run D σ (R113 r) (.nrm [.bk 1, .sq A113_6, .lp A113_1, .bk 0, .sq A113_7]) s := by
  unfold i_net_bestRoot_j1 at h
  obtain ⟨h1, h2, h6, h7, h11, h12, h13⟩ := hs
  refine .nbk ?_
  refine .nsq ?_
  refine run_reg ?_
  refine e_end ?_
  refine g_v1 (t := 13) (u := (.int .i64 t13_17)) (.int .i64 (w64 (t13_17 + 1))) h13 rfl rfl ?_
  refine g_v1 (t := 37) (u := (.int .i64 (w64 (t13_17 + 1)))) (.int .i64 (w64 (t13_17 + 1))) rfl rfl rfl ?_
  refine g_end ?_
  refine e_end ?_
  refine renew [(1, (Enc.enc (depths_2 : List Int))), (2, (.int .i64 set_3)), (6, (.int .i64 0)), (7, (.int .i64 best_35)), (11, (Enc.enc (r_4 : List Int))), (12, (.int .i64 (r_4.length : Int))), (13, (.int .i64 (w64 (t13_17 + 1))))] ⟨h1, h2, h6, h7, h11, h12, rfl⟩ ?_
  rintro s ⟨h1, h2, h6, h7, h11, h12, h13⟩
  refine .nlp ?_
  exact Hc1 best_35 (w64 (t13_17 + 1)) _ ⟨h1, h2, h6, h7, h11, h12, h13⟩ h
def i_net_bestRoot_j2 (F : Nat) (depths_2 : (List Int)) (set_3 : Int) (best_16 : Int) (e_29 : Int) (r_4 : (List Int)) (t13_17 : Int) (c1 : Int → Int → Option Int) (t35_34 : Bool) : Option Int :=
  bif t35_34 then
    i_net_bestRoot_j1 F depths_2 set_3 r_4 t13_17 c1 e_29
  else
    i_net_bestRoot_j1 F depths_2 set_3 r_4 t13_17 c1 best_16
theorem t_f113_j2 (H : H113 D σ F) (depths_2 : (List Int)) (set_3 : Int) (best_16 : Int) (e_29 : Int) (r_4 : (List Int)) (t13_17 : Int) (c1 : Int → Int → Option Int) (Hc1 : ∀ (best_16 : Int) (t13_17 : Int) (s : Nat → V), Facts [(1, (Enc.enc (depths_2 : List Int))), (2, (.int .i64 set_3)), (6, (.int .i64 0)), (7, (.int .i64 best_16)), (11, (Enc.enc (r_4 : List Int))), (12, (.int .i64 (r_4.length : Int))), (13, (.int .i64 t13_17))] s → c1 best_16 t13_17 = some r → Run D σ (R113 r) (.run A113_1 [.lp A113_1, .bk 0, .sq A113_7]) s) (t35_34 : Bool) (s : Nat → V) (hs : Facts [(1, (Enc.enc (depths_2 : List Int))), (2, (.int .i64 set_3)), (6, (.int .i64 0)), (7, (.int .i64 best_16)), (9, (.int .i64 e_29)), (11, (Enc.enc (r_4 : List Int))), (12, (.int .i64 (r_4.length : Int))), (13, (.int .i64 t13_17)), (35, (.bool t35_34))] s) (h : i_net_bestRoot_j2 F depths_2 set_3 best_16 e_29 r_4 t13_17 c1 t35_34 = some r) : Run D σ (R113 r) (.nrm [.sq A113_5, .bk 1, .sq A113_6, .lp A113_1, .bk 0, .sq A113_7]) s := by
  unfold i_net_bestRoot_j2 at h
  obtain ⟨h1, h2, h6, h7, h9, h11, h12, h13, h35⟩ := hs
  refine .nsq ?_
  refine run_cond (t := t35_34) h35 h (fun h => ?_) (fun h => ?_)
  · refine run_reg ?_
    refine e_end ?_
    refine g_v1 (t := 9) (u := (.int .i64 e_29)) (.int .i64 e_29) h9 rfl rfl ?_
    refine g_v1 (t := 36) (u := (.int .i64 e_29)) (.int .i64 e_29) rfl rfl rfl ?_
    refine g_end ?_
    refine e_end ?_
    refine renew [(1, (Enc.enc (depths_2 : List Int))), (2, (.int .i64 set_3)), (6, (.int .i64 0)), (7, (.int .i64 e_29)), (11, (Enc.enc (r_4 : List Int))), (12, (.int .i64 (r_4.length : Int))), (13, (.int .i64 t13_17))] ⟨h1, h2, h6, rfl, h11, h12, h13⟩ ?_
    rintro s ⟨h1, h2, h6, h7, h11, h12, h13⟩
    exact t_f113_j1 H depths_2 set_3 r_4 t13_17 c1 Hc1 e_29 _ ⟨h1, h2, h6, h7, h11, h12, h13⟩ h
  · refine .skip ?_
    exact t_f113_j1 H depths_2 set_3 r_4 t13_17 c1 Hc1 best_16 _ ⟨h1, h2, h6, h7, h11, h12, h13⟩ h
def i_net_bestRoot_l1 (F : Nat) (depths_2 : (List Int)) (set_3 : Int) (r_4 : (List Int))  : Nat → Int → Int → Option Int
  | 0, _, _ => none
  | k + 1, best_16, t13_17 =>
    bif decide (t13_17 < (r_4.length : Int)) then
      (idx r_4 t13_17).bind fun e_29 =>
      bif decide (best_16 < 0) then
        i_net_bestRoot_j2 F depths_2 set_3 best_16 e_29 r_4 t13_17 (i_net_bestRoot_l1 F depths_2 set_3 r_4 k) true
      else
        (shlI .i64 1 e_29).bind fun q_36 =>
        (idx depths_2 (iandNot .i64 set_3 q_36)).bind fun e_37 =>
        (shlI .i64 1 best_16).bind fun q_38 =>
        (idx depths_2 (iandNot .i64 set_3 q_38)).bind fun e_39 =>
        i_net_bestRoot_j2 F depths_2 set_3 best_16 e_29 r_4 t13_17 (i_net_bestRoot_l1 F depths_2 set_3 r_4 k) (decide (e_37 < e_39))
    else
      some best_16
theorem t_f113_l1 (H : H113 D σ F) (depths_2 : (List Int)) (set_3 : Int) (r_4 : (List Int))  : ∀ (k : Nat) (best_16 : Int) (t13_17 : Int) (s : Nat → V), Facts [(1, (Enc.enc (depths_2 : List Int))), (2, (.int .i64 set_3)), (6, (.int .i64 0)), (7, (.int .i64 best_16)), (11, (Enc.enc (r_4 : List Int))), (12, (.int .i64 (r_4.length : Int))), (13, (.int .i64 t13_17))] s → i_net_bestRoot_l1 F depths_2 set_3 r_4 k best_16 t13_17 = some r → Run D σ (R113 r) (.run A113_1 [.lp A113_1, .bk 0, .sq A113_7]) s := by
  intro k
  induction k with
  | zero => intro best_16 t13_17 s _ h; exact nomatch (h : (none : Option _) = some r)
  | succ k ih =>
    intro best_16 t13_17 s hs h
    rw [i_net_bestRoot_l1] at h
    obtain ⟨h1, h2, h6, h7, h11, h12, h13⟩ := hs
    refine .seq ?_
    refine run_reg ?_
    refine e_end ?_
    refine g_v2 (t1 := 13) (t2 := 12) (u1 := (.int .i64 t13_17)) (u2 := (.int .i64 (r_4.length : Int))) (.bool (decide (t13_17 < (r_4.length : Int)))) h13 h12 rfl rfl ?_
    refine g_end ?_
    refine e_end ?_
    refine renew [(1, (Enc.enc (depths_2 : List Int))), (2, (.int .i64 set_3)), (6, (.int .i64 0)), (7, (.int .i64 best_16)), (11, (Enc.enc (r_4 : List Int))), (12, (.int .i64 (r_4.length : Int))), (13, (.int .i64 t13_17)), (14, (.bool (decide (t13_17 < (r_4.length : Int)))))] ⟨h1, h2, h6, h7, h11, h12, h13, rfl⟩ ?_
    rintro s ⟨h1, h2, h6, h7, h11, h12, h13, h14⟩
    refine .nsq ?_
    refine .seq ?_
    refine run_cond (t := decide (t13_17 < (r_4.length : Int))) h14 h (fun h => ?_) (fun h => ?_)
    · refine .skip ?_
      refine .nsq ?_
      refine .seq ?_
      refine .block ?_
      refine .seq ?_
      refine run_reg ?_
      refine e_end ?_
      obtain ⟨e_29, E_e_29, h⟩ := bind_some h
      refine g_v (.ref .sh 0 [] (.int .i64 e_29)) (ev_idx (t := .sh) (lo := 0) (xs := r_4) h11 h13 E_e_29 rfl rfl) ?_
      refine g_v1 (t := 15) (u := (.ref .sh 0 [] (.int .i64 e_29))) (.int .i64 e_29) rfl rfl rfl ?_
      refine g_v1 (t := 16) (u := (.int .i64 e_29)) (.int .i64 e_29) rfl rfl rfl ?_
      refine g_end ?_
      refine e_end ?_
      refine renew [(1, (Enc.enc (depths_2 : List Int))), (2, (.int .i64 set_3)), (6, (.int .i64 0)), (7, (.int .i64 best_16)), (9, (.int .i64 e_29)), (11, (Enc.enc (r_4 : List Int))), (12, (.int .i64 (r_4.length : Int))), (13, (.int .i64 t13_17))] ⟨h1, h2, h6, h7, rfl, h11, h12, h13⟩ ?_
      rintro s ⟨h1, h2, h6, h7, h9, h11, h12, h13⟩
      refine .nsq ?_
      refine .seq ?_
      refine run_reg ?_
      refine e_end ?_
      refine g_v1 (t := 7) (u := (.int .i64 best_16)) (.int .i64 best_16) h7 rfl rfl ?_
      refine g_v1 (t := 17) (u := (.int .i64 best_16)) (.bool (decide (best_16 < 0))) rfl rfl rfl ?_
      refine g_v1 (t := 18) (u := (.bool (decide (best_16 < 0)))) (.bool (decide (best_16 < 0))) rfl rfl rfl ?_
      refine split_on (c := decide (best_16 < 0)) h (fun hg3 h => ?_) (fun hg3 h => ?_)
      · refine g_no (Eq.trans (b := .bool (decide (best_16 < 0))) rfl (congrArg V.bool hg3)) ?_
        refine g_no (Eq.trans (b := .bool (decide (best_16 < 0))) rfl (congrArg V.bool hg3)) ?_
        refine g_no (Eq.trans (b := .bool (decide (best_16 < 0))) rfl (congrArg V.bool hg3)) ?_
        refine g_no (Eq.trans (b := .bool (decide (best_16 < 0))) rfl (congrArg V.bool hg3)) ?_
        refine g_no (Eq.trans (b := .bool (decide (best_16 < 0))) rfl (congrArg V.bool hg3)) ?_
        refine g_no (Eq.trans (b := .bool (decide (best_16 < 0))) rfl (congrArg V.bool hg3)) ?_
        refine g_no (Eq.trans (b := .bool (decide (best_16 < 0))) rfl (congrArg V.bool hg3)) ?_
        refine g_no (Eq.trans (b := .bool (decide (best_16 < 0))) rfl (congrArg V.bool hg3)) ?_
        refine g_no (Eq.trans (b := .bool (decide (best_16 < 0))) rfl (congrArg V.bool hg3)) ?_
        refine g_no (Eq.trans (b := .bool (decide (best_16 < 0))) rfl (congrArg V.bool hg3)) ?_
        refine g_no (Eq.trans (b := .bool (decide (best_16 < 0))) rfl (congrArg V.bool hg3)) ?_
        refine g_no (Eq.trans (b := .bool (decide (best_16 < 0))) rfl (congrArg V.bool hg3)) ?_
        refine g_no (Eq.trans (b := .bool (decide (best_16 < 0))) rfl (congrArg V.bool hg3)) ?_
        refine g_no (Eq.trans (b := .bool (decide (best_16 < 0))) rfl (congrArg V.bool hg3)) ?_
        refine g_no (Eq.trans (b := .bool (decide (best_16 < 0))) rfl (congrArg V.bool hg3)) ?_
        refine g_v2 (t1 := 19) (t2 := 34) (u1 := (.bool true)) (u2 := (.tup [])) (.bool true) (Eq.trans (b := .bool (decide (best_16 < 0))) rfl (congrArg V.bool hg3)) rfl rfl rfl ?_
        refine g_end ?_
        refine e_end ?_
        refine renew [(1, (Enc.enc (depths_2 : List Int))), (2, (.int .i64 set_3)), (6, (.int .i64 0)), (7, (.int .i64 best_16)), (9, (.int .i64 e_29)), (11, (Enc.enc (r_4 : List Int))), (12, (.int .i64 (r_4.length : Int))), (13, (.int .i64 t13_17)), (35, (.bool true))] ⟨h1, h2, h6, h7, h9, h11, h12, h13, rfl⟩ ?_
        rintro s ⟨h1, h2, h6, h7, h9, h11, h12, h13, h35⟩
        exact t_f113_j2 H depths_2 set_3 best_16 e_29 r_4 t13_17 (i_net_bestRoot_l1 F depths_2 set_3 r_4 k) ih true _ ⟨h1, h2, h6, h7, h9, h11, h12, h13, h35⟩ h
      · refine g_yes (Eq.trans (b := .bool (decide (best_16 < 0))) rfl (congrArg V.bool hg3)) (g_v1 (t := 1) (u := (Enc.enc (depths_2 : List Int))) (Enc.enc (depths_2 : List Int)) h1 rfl rfl ?_)
        refine g_yes (Eq.trans (b := .bool (decide (best_16 < 0))) rfl (congrArg V.bool hg3)) (g_v1 (t := 2) (u := (.int .i64 set_3)) (.int .i64 set_3) h2 rfl rfl ?_)
        refine g_yes (Eq.trans (b := .bool (decide (best_16 < 0))) rfl (congrArg V.bool hg3)) (g_v1 (t := 9) (u := (.int .i64 e_29)) (.int .i64 e_29) h9 rfl rfl ?_)
        obtain ⟨q_36, E_q_36, h⟩ := bind_some h
        refine g_yes (Eq.trans (b := .bool (decide (best_16 < 0))) rfl (congrArg V.bool hg3)) (g_v (.int .i64 q_36) (ev_shl rfl rfl E_q_36) ?_)
        refine g_yes (Eq.trans (b := .bool (decide (best_16 < 0))) rfl (congrArg V.bool hg3)) (g_v2 (t1 := 21) (t2 := 23) (u1 := (.int .i64 set_3)) (u2 := (.int .i64 q_36)) (.int .i64 (iandNot .i64 set_3 q_36)) rfl rfl rfl rfl ?_)
        obtain ⟨e_37, E_e_37, h⟩ := bind_some h
        refine g_yes (Eq.trans (b := .bool (decide (best_16 < 0))) rfl (congrArg V.bool hg3)) (g_v (.ref .sh 0 [] (.int .i64 e_37)) (ev_idx (t := .sh) (lo := 0) (xs := depths_2) rfl rfl E_e_37 rfl rfl) ?_)
        refine g_yes (Eq.trans (b := .bool (decide (best_16 < 0))) rfl (congrArg V.bool hg3)) (g_v1 (t := 25) (u := (.ref .sh 0 [] (.int .i64 e_37))) (.int .i64 e_37) rfl rfl rfl ?_)
        refine g_yes (Eq.trans (b := .bool (decide (best_16 < 0))) rfl (congrArg V.bool hg3)) (g_v1 (t := 1) (u := (Enc.enc (depths_2 : List Int))) (Enc.enc (depths_2 : List Int)) h1 rfl rfl ?_)
        refine g_yes (Eq.trans (b := .bool (decide (best_16 < 0))) rfl (congrArg V.bool hg3)) (g_v1 (t := 2) (u := (.int .i64 set_3)) (.int .i64 set_3) h2 rfl rfl ?_)
        refine g_yes (Eq.trans (b := .bool (decide (best_16 < 0))) rfl (congrArg V.bool hg3)) (g_v1 (t := 7) (u := (.int .i64 best_16)) (.int .i64 best_16) h7 rfl rfl ?_)
        obtain ⟨q_38, E_q_38, h⟩ := bind_some h
        refine g_yes (Eq.trans (b := .bool (decide (best_16 < 0))) rfl (congrArg V.bool hg3)) (g_v (.int .i64 q_38) (ev_shl rfl rfl E_q_38) ?_)
        refine g_yes (Eq.trans (b := .bool (decide (best_16 < 0))) rfl (congrArg V.bool hg3)) (g_v2 (t1 := 28) (t2 := 30) (u1 := (.int .i64 set_3)) (u2 := (.int .i64 q_38)) (.int .i64 (iandNot .i64 set_3 q_38)) rfl rfl rfl rfl ?_)
        obtain ⟨e_39, E_e_39, h⟩ := bind_some h
        refine g_yes (Eq.trans (b := .bool (decide (best_16 < 0))) rfl (congrArg V.bool hg3)) (g_v (.ref .sh 0 [] (.int .i64 e_39)) (ev_idx (t := .sh) (lo := 0) (xs := depths_2) rfl rfl E_e_39 rfl rfl) ?_)
        refine g_yes (Eq.trans (b := .bool (decide (best_16 < 0))) rfl (congrArg V.bool hg3)) (g_v1 (t := 32) (u := (.ref .sh 0 [] (.int .i64 e_39))) (.int .i64 e_39) rfl rfl rfl ?_)
        refine g_yes (Eq.trans (b := .bool (decide (best_16 < 0))) rfl (congrArg V.bool hg3)) (g_v2 (t1 := 26) (t2 := 33) (u1 := (.int .i64 e_37)) (u2 := (.int .i64 e_39)) (.bool (decide (e_37 < e_39))) rfl rfl rfl rfl ?_)
        refine g_v2 (t1 := 19) (t2 := 34) (u1 := (.bool false)) (u2 := (.bool (decide (e_37 < e_39)))) (.bool (decide (e_37 < e_39))) (Eq.trans (b := .bool (decide (best_16 < 0))) rfl (congrArg V.bool hg3)) rfl rfl rfl ?_
        refine g_end ?_
        refine e_end ?_
        refine renew [(1, (Enc.enc (depths_2 : List Int))), (2, (.int .i64 set_3)), (6, (.int .i64 0)), (7, (.int .i64 best_16)), (9, (.int .i64 e_29)), (11, (Enc.enc (r_4 : List Int))), (12, (.int .i64 (r_4.length : Int))), (13, (.int .i64 t13_17)), (35, (.bool (decide (e_37 < e_39))))] ⟨h1, h2, h6, h7, h9, h11, h12, h13, rfl⟩ ?_
        rintro s ⟨h1, h2, h6, h7, h9, h11, h12, h13, h35⟩
        exact t_f113_j2 H depths_2 set_3 best_16 e_29 r_4 t13_17 (i_net_bestRoot_l1 F depths_2 set_3 r_4 k) ih (decide (e_37 < e_39)) _ ⟨h1, h2, h6, h7, h9, h11, h12, h13, h35⟩ h
    · refine .exit ?_
      refine .esq ?_
      refine .elp ?_
      refine .ebk ?_
      refine .nsq ?_
      refine .seq ?_
      refine run_reg ?_
      refine e_end ?_
      refine g_v1 (t := 7) (u := (.int .i64 best_16)) (.int .i64 best_16) h7 rfl rfl ?_
      refine g_v1 (t := 38) (u := (.int .i64 best_16)) (.int .i64 best_16) rfl rfl rfl ?_
      refine g_end ?_
      refine e_end ?_
      refine renew [(6, (.int .i64 best_16))] rfl ?_
      rintro s h6
      refine .nsq ?_
      refine .ret ?_
      have hr := Option.some.inj h
      subst hr
      exact rrA (res_tmp h6) rfl
def i_net_bestRoot (F : Nat) (w_1 : (S1 (List Int))) (depths_2 : (List Int)) (set_3 : Int) : Option Int :=
  (i_setOf F set_3).bind fun r_4 =>
  i_net_bestRoot_l1 F depths_2 set_3 r_4 F (-1) 0
theorem t113 (H : H113 D σ F) (w_1 : (S1 (List Int))) (depths_2 : (List Int)) (set_3 : Int) (s : Nat → V) (hs : Facts [(0, (.agg [(Enc.enc (w_1.a : List Int))])), (1, (Enc.enc (depths_2 : List Int))), (2, (.int .i64 set_3))] s) (h : i_net_bestRoot F w_1 depths_2 set_3 = some r) : Run D σ (R113 r) (.run A113 []) s := by
  unfold i_net_bestRoot at h
  obtain ⟨h0, h1, h2⟩ := hs
  refine .seq ?_
  refine run_reg ?_
  refine e_clr ?_
  refine e_end ?_
  refine g_box (.agg [(Enc.enc (w_1.a : List Int))]) (rd_of (keep_clear (s := s) (pk := [3]) h0 rfl (map_agg (maps_cons (Enc.map_enc _ (w_1.a : List Int)) maps_nil))) rfl) (gone_clear (s := s) (pk := [3]) (t := 3) rfl) rfl ?_
  refine g_v0 (.int .i64 0) rfl rfl ?_
  refine g_end ?_
  refine e_end ?_
  refine renew [(1, (Enc.enc (depths_2 : List Int))), (2, (.int .i64 set_3)), (6, (.int .i64 0))] ⟨(keep_clear (s := s) (pk := [3]) h1 rfl (Enc.map_enc _ (depths_2 : List Int))), (keep_clear (s := s) (pk := [3]) h2 rfl rfl), rfl⟩ ?_
  rintro s ⟨h1, h2, h6⟩
  refine .nsq ?_
  refine .seq ?_
  refine run_reg ?_
  refine e_end ?_
  refine g_v0 (.int .i64 (-1)) rfl rfl ?_
  refine g_end ?_
  refine e_end ?_
  refine renew [(1, (Enc.enc (depths_2 : List Int))), (2, (.int .i64 set_3)), (6, (.int .i64 0)), (7, (.int .i64 (-1)))] ⟨h1, h2, h6, rfl⟩ ?_
  rintro s ⟨h1, h2, h6, h7⟩
  refine .nsq ?_
  refine .seq ?_
  refine .seq ?_
  refine run_reg ?_
  refine e_end ?_
  refine g_v1 (t := 2) (u := (.int .i64 set_3)) (.int .i64 set_3) h2 rfl rfl ?_
  obtain ⟨r_4, E_r_4, h⟩ := bind_some h
  refine g_call (m := 0) (al := true) (r := (Enc.enc (r_4 : (List Int)))) [Enc.enc (set_3 : Int)] (ta_cons (v := (.int .i64 set_3)) rfl rfl rfl ta_nil) (H.c121 _ _ E_r_4) H.g121 (hal_of (ht_cons (v := (.int .i64 set_3)) rfl rfl rfl ht_nil)) rfl rfl rfl ?_
  refine g_v (.int .i64 (r_4.length : Int)) (ev_len (xs := r_4) rfl) ?_
  refine g_v0 (.int .i64 0) rfl rfl ?_
  refine g_end ?_
  refine e_end ?_
  refine renew [(1, (Enc.enc (depths_2 : List Int))), (2, (.int .i64 set_3)), (6, (.int .i64 0)), (7, (.int .i64 (-1))), (11, (Enc.enc (r_4 : List Int))), (12, (.int .i64 (r_4.length : Int))), (13, (.int .i64 0))] ⟨h1, h2, h6, h7, rfl, rfl, rfl⟩ ?_
  rintro s ⟨h1, h2, h6, h7, h11, h12, h13⟩
  refine .nsq ?_
  refine .block ?_
  refine .loop ?_
  exact t_f113_l1 H depths_2 set_3 r_4 F (-1) 0 _ ⟨h1, h2, h6, h7, h11, h12, h13⟩ h
end
def e113 (F : Nat) : Ent := ⟨113, dn3 (i_net_bestRoot F) (fun (r : Int) => (Enc.enc (r : Int))), 0, false⟩
theorem o113 {D : Den} {σ : Sig} {F : Nat} (hF : Fits2 Try.prog D σ) (H : H113 D σ F) : (e113 F).Ok Try.prog := by
  refine ⟨fun args r h => ?_, ⟨Try.f113, Try.func113, rfl, rfl⟩⟩
  obtain ⟨x0, x1, x2, y, rfl, hy, rfl⟩ := dn3_open h
  exact contract_run hF (by kernel_rfl) Try.func113 rfl c113 (show 3 ≤ Try.f113.ntmps by decide) (t113 H x0 x1 x2 _ ⟨rfl, rfl, rfl⟩ hy)
end Go.Zq
