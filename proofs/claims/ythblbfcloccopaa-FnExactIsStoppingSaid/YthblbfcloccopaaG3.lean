/- Functions of the program as typed functions, and that the machine runs as they say (part 3). No further condition. -/
import Derived.Test.YthblbfcloccopaaK3
import Derived.Test.YthblbfcloccopaaProg
import Derived.Test.YthblbfcloccopaaChecked
import Derived.KernelRfl
import Derived.Test.YthblbfcloccopaaG2
set_option linter.unusedVariables false
set_option linter.unusedSimpArgs false
/- Functions of the program, as typed functions, and that the machine runs as they say. -/
namespace Go.Zq
open Go.Proofs
/- loop.example/g01109/laws.eqIntS -/
def A21_2 : AC := (AC.cond (O.t 14) AC.skip (AC.exit 0))
def A21_4 : AC := (AC.cond (O.t 25) (AC.seq (AC.reg [] [(I.mk (some 4) none false (X.v (A.mov (O.k (V.bool false)))))] []) AC.ret) AC.skip)
def A21_5 : AC := (AC.reg [] [(I.mk (some 15) none false (X.v (A.mov (O.t 5)))), (I.mk (some 16) none false (X.v (A.bin BinOp.add (O.t 15) (O.k (V.int IntKind.i64 (Int.ofNat 1)))))), (I.mk (some 5) none false (X.v (A.mov (O.t 16))))] [])
def A21_3 : AC := (AC.seq (AC.block 1 (AC.seq (AC.reg [] [(I.mk (some 17) none false (X.v (A.mov (O.t 0)))), (I.mk (some 18) none false (X.v (A.mov (O.t 5)))), (I.mk (some 19) none false (X.v (A.idx (O.t 17) (O.t 18) 1))), (I.mk (some 20) none false (X.v (A.load Sh.s (O.t 19)))), (I.mk (some 21) none false (X.v (A.mov (O.t 1)))), (I.mk (some 22) none false (X.v (A.mov (O.t 5)))), (I.mk (some 23) none false (X.v (A.idx (O.t 21) (O.t 22) 1))), (I.mk (some 24) none false (X.v (A.load Sh.s (O.t 23)))), (I.mk (some 25) none false (X.v (A.bin BinOp.neq (O.t 20) (O.t 24))))] []) A21_4)) A21_5)
def A21_1 : AC := (AC.seq (AC.seq (AC.reg [] [(I.mk (some 11) none false (X.v (A.mov (O.t 5)))), (I.mk (some 12) none false (X.v (A.mov (O.t 0)))), (I.mk (some 13) none false (X.v (A.len (O.t 12)))), (I.mk (some 14) none false (X.v (A.bin BinOp.lss (O.t 11) (O.t 13))))] []) A21_2) A21_3)
def A21_6 : AC := (AC.seq (AC.reg [] [(I.mk (some 4) none false (X.v (A.mov (O.k (V.bool true)))))] []) AC.ret)
def A21_8 : AC := (AC.cond (O.t 10) (AC.seq (AC.reg [] [(I.mk (some 4) none false (X.v (A.mov (O.k (V.bool false)))))] []) AC.ret) AC.skip)
def A21_10 : AC := (AC.block 0 (AC.loop A21_1))
def A21_9 : AC := (AC.seq (AC.seq (AC.reg [] [(I.mk (some 5) none false (X.v (A.mov (O.k (V.int IntKind.i64 (Int.ofNat 0))))))] []) A21_10) A21_6)
def A21_7 : AC := (AC.seq (AC.seq (AC.reg [] [(I.mk (some 6) none false (X.v (A.mov (O.t 0)))), (I.mk (some 7) none false (X.v (A.len (O.t 6)))), (I.mk (some 8) none false (X.v (A.mov (O.t 1)))), (I.mk (some 9) none false (X.v (A.len (O.t 8)))), (I.mk (some 10) none false (X.v (A.bin BinOp.neq (O.t 7) (O.t 9))))] []) A21_8) A21_9)
def A21 : AC := (AC.seq (AC.reg [] [(I.mk (some 4) none false (X.v (A.mov (O.k (V.bool false)))))] []) A21_7)
def an21 : List An := []
theorem c21 : cC Try.prog Try.f21.ntmps an21 (Try.f21.body.getD .skip) = some A21 := by kernel_rfl
structure H21 (D : Den) (σ : Sig) (F : Nat) : Prop where
  mk ::
abbrev R21 (r : Bool) : (Nat → V) → Prop := RR Try.prog [.tmp 4] 0 false (Enc.enc (r : Bool))
section
variable {D : Den} {σ : Sig} {F : Nat} {r : Bool}
def w_eqIntS_l1 (F : Nat) (a_1 : (List Int)) (b_2 : (List Int))  : Nat → Int → Option Bool
  | 0, _ => none
  | k + 1, i_5 =>
    bif decide (i_5 < (a_1.length : Int)) then
      (idx a_1 i_5).bind fun e_8 =>
      (idx b_2 i_5).bind fun e_9 =>
      bif (e_8 != e_9) then
        some false
      else
        (w_eqIntS_l1 F a_1 b_2 k) (w64 (i_5 + 1))
    else
      some true
theorem t_f21_l1 (H : H21 D σ F) (a_1 : (List Int)) (b_2 : (List Int))  : ∀ (k : Nat) (i_5 : Int) (s : Nat → V), Facts [(0, (Enc.enc (a_1 : List Int))), (1, (Enc.enc (b_2 : List Int))), (4, (.bool false)), (5, (.int .i64 i_5))] s → w_eqIntS_l1 F a_1 b_2 k i_5 = some r → Run D σ (R21 r) (.run A21_1 [.lp A21_1, .bk 0, .sq A21_6]) s := by
  intro k
  induction k with
  | zero => intro i_5 s _ h; exact nomatch (h : (none : Option _) = some r)
  | succ k ih =>
    intro i_5 s hs h
    rw [w_eqIntS_l1] at h
    obtain ⟨h0, h1, h4, h5⟩ := hs
    refine .seq ?_
    refine .seq ?_
    refine run_reg ?_
    refine e_end ?_
    refine g_v1 (t := 5) (u := (.int .i64 i_5)) (.int .i64 i_5) h5 rfl rfl ?_
    refine g_v1 (t := 0) (u := (Enc.enc (a_1 : List Int))) (Enc.enc (a_1 : List Int)) h0 rfl rfl ?_
    refine g_v (.int .i64 (a_1.length : Int)) (ev_len (xs := a_1) rfl) ?_
    refine g_v2 (t1 := 11) (t2 := 13) (u1 := (.int .i64 i_5)) (u2 := (.int .i64 (a_1.length : Int))) (.bool (decide (i_5 < (a_1.length : Int)))) rfl rfl rfl rfl ?_
    refine g_end ?_
    refine e_end ?_
    refine renew [(0, (Enc.enc (a_1 : List Int))), (1, (Enc.enc (b_2 : List Int))), (4, (.bool false)), (5, (.int .i64 i_5)), (14, (.bool (decide (i_5 < (a_1.length : Int)))))] ⟨h0, h1, h4, h5, rfl⟩ ?_
    rintro s ⟨h0, h1, h4, h5, h14⟩
    refine .nsq ?_
    refine run_cond (t := decide (i_5 < (a_1.length : Int))) h14 h (fun h => ?_) (fun h => ?_)
    · refine .skip ?_
      refine .nsq ?_
      refine .seq ?_
      refine .block ?_
      refine .seq ?_
      refine run_reg ?_
      refine e_end ?_
      refine g_v1 (t := 0) (u := (Enc.enc (a_1 : List Int))) (Enc.enc (a_1 : List Int)) h0 rfl rfl ?_
      refine g_v1 (t := 5) (u := (.int .i64 i_5)) (.int .i64 i_5) h5 rfl rfl ?_
      obtain ⟨e_8, E_e_8, h⟩ := bind_some h
      refine g_v (.ref .sh 0 [] (.int .i64 e_8)) (ev_idx (t := .sh) (lo := 0) (xs := a_1) rfl rfl E_e_8 rfl rfl) ?_
      refine g_v1 (t := 19) (u := (.ref .sh 0 [] (.int .i64 e_8))) (.int .i64 e_8) rfl rfl rfl ?_
      refine g_v1 (t := 1) (u := (Enc.enc (b_2 : List Int))) (Enc.enc (b_2 : List Int)) h1 rfl rfl ?_
      refine g_v1 (t := 5) (u := (.int .i64 i_5)) (.int .i64 i_5) h5 rfl rfl ?_
      obtain ⟨e_9, E_e_9, h⟩ := bind_some h
      refine g_v (.ref .sh 0 [] (.int .i64 e_9)) (ev_idx (t := .sh) (lo := 0) (xs := b_2) rfl rfl E_e_9 rfl rfl) ?_
      refine g_v1 (t := 23) (u := (.ref .sh 0 [] (.int .i64 e_9))) (.int .i64 e_9) rfl rfl rfl ?_
      refine g_v2 (t1 := 20) (t2 := 24) (u1 := (.int .i64 e_8)) (u2 := (.int .i64 e_9)) (.bool (e_8 != e_9)) rfl rfl rfl rfl ?_
      refine g_end ?_
      refine e_end ?_
      refine renew [(0, (Enc.enc (a_1 : List Int))), (1, (Enc.enc (b_2 : List Int))), (4, (.bool false)), (5, (.int .i64 i_5)), (25, (.bool (e_8 != e_9)))] ⟨h0, h1, h4, h5, rfl⟩ ?_
      rintro s ⟨h0, h1, h4, h5, h25⟩
      refine .nsq ?_
      refine run_cond (t := (e_8 != e_9)) h25 h (fun h => ?_) (fun h => ?_)
      · refine .seq ?_
        refine run_reg ?_
        refine e_end ?_
        refine g_v0 (.bool false) rfl rfl ?_
        refine g_end ?_
        refine e_end ?_
        refine renew [(0, (Enc.enc (a_1 : List Int))), (1, (Enc.enc (b_2 : List Int))), (4, (.bool false)), (5, (.int .i64 i_5))] ⟨h0, h1, rfl, h5⟩ ?_
        rintro s ⟨h0, h1, h4, h5⟩
        refine .nsq ?_
        refine .ret ?_
        have hr := Option.some.inj h
        subst hr
        exact rrA (res_tmp h4) rfl
      · refine .skip ?_
        refine .nbk ?_
        refine .nsq ?_
        refine run_reg ?_
        refine e_end ?_
        refine g_v1 (t := 5) (u := (.int .i64 i_5)) (.int .i64 i_5) h5 rfl rfl ?_
        refine g_v1 (t := 15) (u := (.int .i64 i_5)) (.int .i64 (w64 (i_5 + 1))) rfl rfl rfl ?_
        refine g_v1 (t := 16) (u := (.int .i64 (w64 (i_5 + 1)))) (.int .i64 (w64 (i_5 + 1))) rfl rfl rfl ?_
        refine g_end ?_
        refine e_end ?_
        refine renew [(0, (Enc.enc (a_1 : List Int))), (1, (Enc.enc (b_2 : List Int))), (4, (.bool false)), (5, (.int .i64 (w64 (i_5 + 1))))] ⟨h0, h1, h4, rfl⟩ ?_
        rintro s ⟨h0, h1, h4, h5⟩
        refine .nlp ?_
        exact ih (w64 (i_5 + 1)) _ ⟨h0, h1, h4, h5⟩ h
    · refine .exit ?_
      refine .esq ?_
      refine .elp ?_
      refine .ebk ?_
      refine .nsq ?_
      refine .seq ?_
      refine run_reg ?_
      refine e_end ?_
      refine g_v0 (.bool true) rfl rfl ?_
      refine g_end ?_
      refine e_end ?_
      refine renew [(4, (.bool true))] rfl ?_
      rintro s h4
      refine .nsq ?_
      refine .ret ?_
      have hr := Option.some.inj h
      subst hr
      exact rrA (res_tmp h4) rfl
def w_eqIntS (F : Nat) (a_1 : (List Int)) (b_2 : (List Int)) : Option Bool :=
  bif ((a_1.length : Int) != (b_2.length : Int)) then
    some false
  else
    w_eqIntS_l1 F a_1 b_2 F 0
theorem t21 (H : H21 D σ F) (a_1 : (List Int)) (b_2 : (List Int)) (s : Nat → V) (hs : Facts [(0, (Enc.enc (a_1 : List Int))), (1, (Enc.enc (b_2 : List Int)))] s) (h : w_eqIntS F a_1 b_2 = some r) : Run D σ (R21 r) (.run A21 []) s := by
  unfold w_eqIntS at h
  obtain ⟨h0, h1⟩ := hs
  refine .seq ?_
  refine run_reg ?_
  refine e_end ?_
  refine g_v0 (.bool false) rfl rfl ?_
  refine g_end ?_
  refine e_end ?_
  refine renew [(0, (Enc.enc (a_1 : List Int))), (1, (Enc.enc (b_2 : List Int))), (4, (.bool false))] ⟨h0, h1, rfl⟩ ?_
  rintro s ⟨h0, h1, h4⟩
  refine .nsq ?_
  refine .seq ?_
  refine .seq ?_
  refine run_reg ?_
  refine e_end ?_
  refine g_v1 (t := 0) (u := (Enc.enc (a_1 : List Int))) (Enc.enc (a_1 : List Int)) h0 rfl rfl ?_
  refine g_v (.int .i64 (a_1.length : Int)) (ev_len (xs := a_1) rfl) ?_
  refine g_v1 (t := 1) (u := (Enc.enc (b_2 : List Int))) (Enc.enc (b_2 : List Int)) h1 rfl rfl ?_
  refine g_v (.int .i64 (b_2.length : Int)) (ev_len (xs := b_2) rfl) ?_
  refine g_v2 (t1 := 7) (t2 := 9) (u1 := (.int .i64 (a_1.length : Int))) (u2 := (.int .i64 (b_2.length : Int))) (.bool ((a_1.length : Int) != (b_2.length : Int))) rfl rfl rfl rfl ?_
  refine g_end ?_
  refine e_end ?_
  refine renew [(0, (Enc.enc (a_1 : List Int))), (1, (Enc.enc (b_2 : List Int))), (4, (.bool false)), (10, (.bool ((a_1.length : Int) != (b_2.length : Int))))] ⟨h0, h1, h4, rfl⟩ ?_
  rintro s ⟨h0, h1, h4, h10⟩
  refine .nsq ?_
  refine run_cond (t := ((a_1.length : Int) != (b_2.length : Int))) h10 h (fun h => ?_) (fun h => ?_)
  · refine .seq ?_
    refine run_reg ?_
    refine e_end ?_
    refine g_v0 (.bool false) rfl rfl ?_
    refine g_end ?_
    refine e_end ?_
    refine renew [(0, (Enc.enc (a_1 : List Int))), (1, (Enc.enc (b_2 : List Int))), (4, (.bool false))] ⟨h0, h1, rfl⟩ ?_
    rintro s ⟨h0, h1, h4⟩
    refine .nsq ?_
    refine .ret ?_
    have hr := Option.some.inj h
    subst hr
    exact rrA (res_tmp h4) rfl
  · refine .skip ?_
    refine .nsq ?_
    refine .seq ?_
    refine .seq ?_
    refine run_reg ?_
    refine e_end ?_
    refine g_v0 (.int .i64 0) rfl rfl ?_
    refine g_end ?_
    refine e_end ?_
    refine renew [(0, (Enc.enc (a_1 : List Int))), (1, (Enc.enc (b_2 : List Int))), (4, (.bool false)), (5, (.int .i64 0))] ⟨h0, h1, h4, rfl⟩ ?_
    rintro s ⟨h0, h1, h4, h5⟩
    refine .nsq ?_
    refine .block ?_
    refine .loop ?_
    exact t_f21_l1 H a_1 b_2 F 0 _ ⟨h0, h1, h4, h5⟩ h
end
def e21 (F : Nat) : Ent := ⟨21, da (fun (x : ((List Int) × (List Int) × Unit)) => w_eqIntS F x.1 x.2.1) (fun (r : Bool) => (Enc.enc (r : Bool))), 0, false, selF []⟩
theorem p21 {F : Nat} {x0 : (List Int)} {x1 : (List Int)} {r : Bool} (h : w_eqIntS F x0 x1 = some r) : (e21 F).den [Enc.enc x0, Enc.enc x1] = some (Enc.enc (r : Bool)) := da_put (f := fun (x : ((List Int) × (List Int) × Unit)) => w_eqIntS F x.1 x.2.1) (t := fun (r : Bool) => (Enc.enc (r : Bool))) (x0, x1, ()) h
theorem o21 {D : Den} {σ : Sig} {F : Nat} (hF : Fits2 Try.prog D σ) (H : H21 D σ F) : (e21 F).Ok Try.prog := by
  refine ok_of (f := 21) (show unk 21 = 21 from rfl) (fun args r h => ?_) ⟨Try.f21, Try.func21, rfl, rfl⟩
  obtain ⟨⟨x0, x1, _⟩, y, rfl, hy, rfl⟩ := da_open h
  exact contract_run hF (by kernel_rfl) Try.func21 rfl c21 (show 2 ≤ Try.f21.ntmps by decide) (t21 H x0 x1 _ ⟨rfl, rfl⟩ hy)
/- loop.example/g01109/laws.FnExactIsStopping -/
def A11_1 : AC := (AC.cond (O.t 49) (AC.seq (AC.reg [] [(I.mk (some 6) none false (X.v (A.mov (O.k (V.bool false)))))] []) AC.ret) AC.skip)
def A11_3 : AC := (AC.cond (O.t 54) (AC.seq (AC.reg [] [(I.mk (some 6) none false (X.v (A.mov (O.k (V.bool false)))))] []) AC.ret) AC.skip)
def A11_5 : AC := (AC.cond (O.t 59) (AC.seq (AC.reg [] [(I.mk (some 6) none false (X.v (A.mov (O.k (V.bool false)))))] []) AC.ret) AC.skip)
def A11_6 : AC := (AC.seq (AC.reg [] [(I.mk (some 6) none false (X.v (A.mov (O.k (V.bool true)))))] []) AC.ret)
def A11_4 : AC := (AC.seq (AC.seq (AC.reg [] [(I.mk (some 55) none false (X.v (A.mov (O.t 11)))), (I.mk (some 56) none false (X.v (A.mov (O.t 1)))), (I.mk (some 57) none false (X.call (O.k (V.fn 18 [] [])) [(O.t 56)])), (I.mk (some 58) none false (X.call (O.k (V.fn 21 [] [])) [(O.t 55), (O.t 57)])), (I.mk (some 59) none false (X.v (A.un UnOp.not (O.t 58))))] []) A11_5) A11_6)
def A11_2 : AC := (AC.seq (AC.seq (AC.reg [] [(I.mk (some 50) none false (X.v (A.load (Sh.ag [Sh.s, Sh.p]) (O.t 10)))), (I.mk (some 51) none false (X.v (A.load (Sh.ag [Sh.s, Sh.p]) (O.t 3)))), (I.mk (some 52) none false (X.call (O.k (V.fn 17 [] [])) [(O.t 51)])), (I.mk (some 53) none false (X.call (O.k (V.fn 20 [] [])) [(O.t 50), (O.t 52)])), (I.mk (some 54) none false (X.v (A.un UnOp.not (O.t 53))))] []) A11_3) A11_4)
def A11_8 : AC := (AC.cond (O.t 16) (AC.seq (AC.reg [] [(I.mk (some 6) none false (X.v (A.mov (O.k (V.bool true)))))] []) AC.ret) AC.skip)
def A11_12 : AC := (AC.cond (O.t 21) (AC.seq (AC.reg [] [(I.mk (some 6) none false (X.v (A.mov (O.k (V.bool true)))))] []) AC.ret) AC.skip)
def A11_17 : AC := (AC.seq (AC.seq (AC.reg [] [(I.mk (some 42) none false (X.v (A.mov (O.t 12)))), (I.mk (some 43) none false (X.v (A.mov (O.t 8)))), (I.mk (some 44) none false (X.v (A.beq true (O.t 42) (O.t 43)))), (I.mk (some 45) none false (X.v (A.mov (O.t 44)))), (I.mk (some 46) (some (45, false)) false (X.v (A.mov (O.t 13)))), (I.mk (some 47) (some (45, false)) false (X.v (A.mov (O.t 9)))), (I.mk (some 48) (some (45, false)) false (X.v (A.beq true (O.t 46) (O.t 47)))), (I.mk (some 49) none false (X.v (A.pick (O.t 45) (O.k (V.bool true)) (O.t 48))))] []) A11_1) A11_2)
def A11_16 : AC := (AC.seq (AC.reg [] [(I.mk (some 36) none false (X.v (A.load (Sh.ag [Sh.s, Sh.p]) (O.t 10)))), (I.mk (some 37) none false (X.v (A.mov (O.t 11)))), (I.mk (some 38) none false (X.v (A.mov (O.t 2)))), (I.mk (some 39) none false (X.call (O.k (V.fn 37 [] [])) [(O.t 36), (O.t 37), (O.t 38)])), (I.mk (some 35) none false (X.v (A.mov (O.t 39)))), (I.mk (some 40) none false (X.v (A.extS (O.t 35) 0))), (I.mk (some 41) none false (X.v (A.extS (O.t 35) 1))), (I.mk (some 12) none false (X.v (A.mov (O.t 40)))), (I.mk (some 13) none false (X.v (A.mov (O.t 41))))] []) A11_17)
def A11_15 : AC := (AC.seq (AC.reg [] [(I.mk (some 33) none false (X.v (A.mov (O.t 1)))), (I.mk (some 34) none false (X.call (O.k (V.fn 18 [] [])) [(O.t 33)])), (I.mk (some 11) none false (X.v (A.mov (O.t 34))))] []) A11_16)
def A11_14 : AC := (AC.seq (AC.reg [.clr [10]] [(I.mk (some 31) none false (X.v (A.load (Sh.ag [Sh.s, Sh.p]) (O.t 3)))), (I.mk (some 32) none false (X.call (O.k (V.fn 17 [] [])) [(O.t 31)])), (I.mk (some 10) none false (X.alloc (V.agg [(V.int IntKind.i64 (Int.ofNat 0)), (V.sl Tok.nl (Sh.ag [Sh.s, Sh.s]) 0 [])]))), (I.mk none none false (X.store (Sh.ag [Sh.s, Sh.p]) (O.t 10) (O.t 32)))] []) A11_15)
def A11_13 : AC := (AC.seq (AC.reg [] [(I.mk (some 23) none false (X.v (A.load (Sh.ag [Sh.s, Sh.p]) (O.t 3)))), (I.mk (some 24) none false (X.call (O.k (V.fn 17 [] [])) [(O.t 23)])), (I.mk (some 25) none false (X.v (A.mov (O.t 1)))), (I.mk (some 26) none false (X.call (O.k (V.fn 18 [] [])) [(O.t 25)])), (I.mk (some 27) none false (X.v (A.mov (O.t 2)))), (I.mk (some 28) none false (X.call (O.k (V.fn 36 [] [])) [(O.t 24), (O.t 26), (O.t 27)])), (I.mk (some 22) none false (X.v (A.mov (O.t 28)))), (I.mk (some 29) none false (X.v (A.extS (O.t 22) 0))), (I.mk (some 30) none false (X.v (A.extS (O.t 22) 1))), (I.mk (some 8) none false (X.v (A.mov (O.t 29)))), (I.mk (some 9) none false (X.v (A.mov (O.t 30))))] []) A11_14)
def A11_11 : AC := (AC.seq (AC.seq (AC.reg [] [(I.mk (some 20) none false (X.v (A.mov (O.t 7)))), (I.mk (some 21) none false (X.v (A.bin BinOp.lss (O.t 20) (O.k (V.int IntKind.i64 (Int.ofNat 0))))))] []) A11_12) A11_13)
def A11_10 : AC := (AC.seq (AC.reg [] [(I.mk (some 17) none false (X.v (A.load (Sh.ag [Sh.s, Sh.p]) (O.t 3)))), (I.mk (some 18) none false (X.v (A.mov (O.t 7)))), (I.mk (some 19) none false (X.call (O.k (V.fn 15 [] [])) [(O.t 17), (O.t 18)])), (I.mk (some 7) none false (X.v (A.mov (O.t 19))))] []) A11_11)
def A11_9 : AC := (AC.seq (AC.reg [] [(I.mk (some 7) none false (X.v (A.mov (O.k (V.int IntKind.i64 (Int.ofNat 1048576))))))] []) A11_10)
def A11_7 : AC := (AC.seq (AC.seq (AC.reg [] [(I.mk (some 14) none false (X.v (A.mov (O.t 1)))), (I.mk (some 15) none false (X.v (A.len (O.t 14)))), (I.mk (some 16) none false (X.v (A.bin BinOp.gtr (O.t 15) (O.k (V.int IntKind.i64 (Int.ofNat 1048576))))))] []) A11_8) A11_9)
def A11 : AC := (AC.seq (AC.reg [.clr [3]] [(I.mk (some 3) none false (X.box (O.t 0))), (I.mk (some 6) none false (X.v (A.mov (O.k (V.bool false)))))] []) A11_7)
def an11 : List An := [{ id := 0, pre := [.clr [3]], ep := [], lin := [], sp := [] }, { id := 8, pre := [.clr [10]], ep := [], lin := [], sp := [] }]
theorem c11 : cC Try.prog Try.f11.ntmps an11 (Try.f11.body.getD .skip) = some A11 := by kernel_rfl
structure H11 (D : Den) (σ : Sig) (F : Nat) : Prop where
  c15 : ∀ (x0 : (Int × (List (Int × Int)))) (x1 : Int) r, w_szGraph F x0 x1 = some r → D 15 [Enc.enc x0, Enc.enc x1] = some (Enc.enc (r : Int))
  g15 : σ 15 = some (0, false)
  c17 : ∀ (x0 : (Int × (List (Int × Int)))) r, w_toGraph F x0 = some r → D 17 [Enc.enc x0] = some (Enc.enc (r : (Int × (List (Int × Int)))))
  g17 : σ 17 = some (0, true)
  c18 : ∀ (x0 : (List Int)) r, w_toIntS F x0 = some r → D 18 [Enc.enc x0] = some (Enc.enc (r : (List Int)))
  g18 : σ 18 = some (0, false)
  c36 : ∀ (x0 : (Int × (List (Int × Int)))) (x1 : (List Int)) (x2 : Int) r, s_IsStopping F x0 x1 x2 = some r → D 36 [Enc.enc x0, Enc.enc x1, Enc.enc x2] = some (.tup [Enc.enc (r.1 : Bool), Enc.enc (r.2 : Bool)])
  g36 : σ 36 = some (0, false)
  c37 : ∀ (x0 : (Int × (List (Int × Int)))) (x1 : (List Int)) (x2 : Int) r, i_IsStopping F x0 x1 x2 = some r → D 37 [Enc.enc x0, Enc.enc x1, Enc.enc x2] = some (.tup [Enc.enc (r.1 : Bool), Enc.enc (r.2 : Bool)])
  g37 : σ 37 = some (0, false)
  c20 : ∀ (x0 : (Int × (List (Int × Int)))) (x1 : (Int × (List (Int × Int)))) r, w_eqGraph F x0 x1 = some r → D 20 [Enc.enc x0, Enc.enc x1] = some (Enc.enc (r : Bool))
  g20 : σ 20 = some (0, false)
  c21 : ∀ (x0 : (List Int)) (x1 : (List Int)) r, w_eqIntS F x0 x1 = some r → D 21 [Enc.enc x0, Enc.enc x1] = some (Enc.enc (r : Bool))
  g21 : σ 21 = some (0, false)
abbrev R11 (r : Bool) : (Nat → V) → Prop := RR Try.prog [.tmp 6] 0 false (Enc.enc (r : Bool))
section
variable {D : Den} {σ : Sig} {F : Nat} {r : Bool}
def w_FnExactIsStopping_j1 (F : Nat) (aSet_2 : (List Int)) (aG_1 : (Int × (List (Int × Int)))) (r_8 : (Int × (List (Int × Int)))) (r_9 : (List Int))  (t49_11 : Bool) : Option Bool :=
  bif t49_11 then
    some false
  else
    (w_toGraph F aG_1).bind fun r_12 =>
    (w_eqGraph F r_8 r_12).bind fun r_13 =>
    bif (!r_13) then
      some false
    else
      (w_toIntS F aSet_2).bind fun r_14 =>
      (w_eqIntS F r_9 r_14).bind fun r_15 =>
      bif (!r_15) then
        some false
      else
        some true
theorem t_f11_j1 (H : H11 D σ F) (aSet_2 : (List Int)) (aG_1 : (Int × (List (Int × Int)))) (r_8 : (Int × (List (Int × Int)))) (r_9 : (List Int))  (t49_11 : Bool) (s : Nat → V) (hs : Facts [(1, (Enc.enc (aSet_2 : List Int))), (3, (.ref (.bx 3) 0 [] (.agg [(.int .i64 aG_1.1), (Enc.enc (aG_1.2 : List (Int × Int)))]))), (6, (.bool false)), (10, (.ref (.bx 10) 0 [] (.agg [(.int .i64 r_8.1), (Enc.enc (r_8.2 : List (Int × Int)))]))), (11, (Enc.enc (r_9 : List Int))), (49, (.bool t49_11))] s) (h : w_FnExactIsStopping_j1 F aSet_2 aG_1 r_8 r_9  t49_11 = some r) : Run D σ (R11 r) (.nrm [.sq A11_1, .sq A11_2]) s := by
  unfold w_FnExactIsStopping_j1 at h
  obtain ⟨h1, h3, h6, h10, h11, h49⟩ := hs
  refine .nsq ?_
  refine run_cond (t := t49_11) h49 h (fun h => ?_) (fun h => ?_)
  · refine .seq ?_
    refine run_reg ?_
    refine e_end ?_
    refine g_v0 (.bool false) rfl rfl ?_
    refine g_end ?_
    refine e_end ?_
    refine renew [(1, (Enc.enc (aSet_2 : List Int))), (3, (.ref (.bx 3) 0 [] (.agg [(.int .i64 aG_1.1), (Enc.enc (aG_1.2 : List (Int × Int)))]))), (6, (.bool false)), (10, (.ref (.bx 10) 0 [] (.agg [(.int .i64 r_8.1), (Enc.enc (r_8.2 : List (Int × Int)))]))), (11, (Enc.enc (r_9 : List Int)))] ⟨h1, h3, rfl, h10, h11⟩ ?_
    rintro s ⟨h1, h3, h6, h10, h11⟩
    refine .nsq ?_
    refine .ret ?_
    have hr := Option.some.inj h
    subst hr
    exact rrA (res_tmp h6) rfl
  · refine .skip ?_
    refine .nsq ?_
    refine .seq ?_
    refine .seq ?_
    refine run_reg ?_
    refine e_end ?_
    refine g_v1 (t := 10) (u := (.ref (.bx 10) 0 [] (.agg [(.int .i64 r_8.1), (Enc.enc (r_8.2 : List (Int × Int)))]))) (.agg [(.int .i64 r_8.1), (Enc.enc (r_8.2 : List (Int × Int)))]) h10 rfl rfl ?_
    refine g_v1 (t := 3) (u := (.ref (.bx 3) 0 [] (.agg [(.int .i64 aG_1.1), (Enc.enc (aG_1.2 : List (Int × Int)))]))) (.agg [(.int .i64 aG_1.1), (Enc.enc (aG_1.2 : List (Int × Int)))]) h3 rfl rfl ?_
    obtain ⟨r_12, E_r_12, h⟩ := bind_some h
    refine g_call (m := 0) (al := true) (r := (Enc.enc (r_12 : (Int × (List (Int × Int)))))) [Enc.enc (aG_1 : (Int × (List (Int × Int))))] (ta_cons (v := (.agg [(.int .i64 aG_1.1), (Enc.enc (aG_1.2 : List (Int × Int)))])) rfl rfl (Enc.erase_enc (aG_1 : (Int × (List (Int × Int))))) ta_nil) (H.c17 _ _ E_r_12) H.g17 (hal_of (ht_cons (v := (.agg [(.int .i64 aG_1.1), (Enc.enc (aG_1.2 : List (Int × Int)))])) rfl rfl rfl ht_nil)) rfl rfl rfl ?_
    obtain ⟨r_13, E_r_13, h⟩ := bind_some h
    refine g_call (m := 0) (al := false) (r := (Enc.enc (r_13 : Bool))) [Enc.enc (r_8 : (Int × (List (Int × Int)))), Enc.enc (r_12 : (Int × (List (Int × Int))))] (ta_cons (v := (.agg [(.int .i64 r_8.1), (Enc.enc (r_8.2 : List (Int × Int)))])) rfl rfl (Enc.erase_enc (r_8 : (Int × (List (Int × Int))))) (ta_cons (v := (.agg [(.int .i64 r_12.1), (Enc.enc (r_12.2 : List (Int × Int)))])) rfl rfl (Enc.erase_enc (r_12 : (Int × (List (Int × Int))))) ta_nil)) (H.c20 _ _ _ E_r_13) H.g20 rfl rfl rfl rfl ?_
    refine g_v1 (t := 53) (u := (.bool r_13)) (.bool (!r_13)) rfl rfl rfl ?_
    refine g_end ?_
    refine e_end ?_
    refine renew [(1, (Enc.enc (aSet_2 : List Int))), (6, (.bool false)), (11, (Enc.enc (r_9 : List Int))), (54, (.bool (!r_13)))] ⟨h1, h6, h11, rfl⟩ ?_
    rintro s ⟨h1, h6, h11, h54⟩
    refine .nsq ?_
    refine run_cond (t := (!r_13)) h54 h (fun h => ?_) (fun h => ?_)
    · refine .seq ?_
      refine run_reg ?_
      refine e_end ?_
      refine g_v0 (.bool false) rfl rfl ?_
      refine g_end ?_
      refine e_end ?_
      refine renew [(1, (Enc.enc (aSet_2 : List Int))), (6, (.bool false)), (11, (Enc.enc (r_9 : List Int)))] ⟨h1, rfl, h11⟩ ?_
      rintro s ⟨h1, h6, h11⟩
      refine .nsq ?_
      refine .ret ?_
      have hr := Option.some.inj h
      subst hr
      exact rrA (res_tmp h6) rfl
    · refine .skip ?_
      refine .nsq ?_
      refine .seq ?_
      refine .seq ?_
      refine run_reg ?_
      refine e_end ?_
      refine g_v1 (t := 11) (u := (Enc.enc (r_9 : List Int))) (Enc.enc (r_9 : List Int)) h11 rfl rfl ?_
      refine g_v1 (t := 1) (u := (Enc.enc (aSet_2 : List Int))) (Enc.enc (aSet_2 : List Int)) h1 rfl rfl ?_
      obtain ⟨r_14, E_r_14, h⟩ := bind_some h
      refine g_call (m := 0) (al := false) (r := (Enc.enc (r_14 : (List Int)))) [Enc.enc (aSet_2 : (List Int))] (ta_cons (v := (Enc.enc (aSet_2 : List Int))) rfl rfl (Enc.erase_enc (aSet_2 : (List Int))) ta_nil) (H.c18 _ _ E_r_14) H.g18 rfl rfl rfl rfl ?_
      obtain ⟨r_15, E_r_15, h⟩ := bind_some h
      refine g_call (m := 0) (al := false) (r := (Enc.enc (r_15 : Bool))) [Enc.enc (r_9 : (List Int)), Enc.enc (r_14 : (List Int))] (ta_cons (v := (Enc.enc (r_9 : List Int))) rfl rfl (Enc.erase_enc (r_9 : (List Int))) (ta_cons (v := (Enc.enc (r_14 : List Int))) rfl rfl (Enc.erase_enc (r_14 : (List Int))) ta_nil)) (H.c21 _ _ _ E_r_15) H.g21 rfl rfl rfl rfl ?_
      refine g_v1 (t := 58) (u := (.bool r_15)) (.bool (!r_15)) rfl rfl rfl ?_
      refine g_end ?_
      refine e_end ?_
      refine renew [(6, (.bool false)), (59, (.bool (!r_15)))] ⟨h6, rfl⟩ ?_
      rintro s ⟨h6, h59⟩
      refine .nsq ?_
      refine run_cond (t := (!r_15)) h59 h (fun h => ?_) (fun h => ?_)
      · refine .seq ?_
        refine run_reg ?_
        refine e_end ?_
        refine g_v0 (.bool false) rfl rfl ?_
        refine g_end ?_
        refine e_end ?_
        refine renew [(6, (.bool false))] rfl ?_
        rintro s h6
        refine .nsq ?_
        refine .ret ?_
        have hr := Option.some.inj h
        subst hr
        exact rrA (res_tmp h6) rfl
      · refine .skip ?_
        refine .nsq ?_
        refine .seq ?_
        refine run_reg ?_
        refine e_end ?_
        refine g_v0 (.bool true) rfl rfl ?_
        refine g_end ?_
        refine e_end ?_
        refine renew [(6, (.bool true))] rfl ?_
        rintro s h6
        refine .nsq ?_
        refine .ret ?_
        have hr := Option.some.inj h
        subst hr
        exact rrA (res_tmp h6) rfl
def w_FnExactIsStopping (F : Nat) (aG_1 : (Int × (List (Int × Int)))) (aSet_2 : (List Int)) (aR_3 : Int) : Option Bool :=
  bif decide ((aSet_2.length : Int) > 1048576) then
    some true
  else
    (w_szGraph F aG_1 1048576).bind fun r_4 =>
    bif decide (r_4 < 0) then
      some true
    else
      (w_toGraph F aG_1).bind fun r_5 =>
      (w_toIntS F aSet_2).bind fun r_6 =>
      (s_IsStopping F r_5 r_6 aR_3).bind fun r_7 =>
      (w_toGraph F aG_1).bind fun r_8 =>
      (w_toIntS F aSet_2).bind fun r_9 =>
      (i_IsStopping F r_8 r_9 aR_3).bind fun r_10 =>
      bif (r_10.1 != r_7.1) then
        w_FnExactIsStopping_j1 F aSet_2 aG_1 r_8 r_9 true
      else
        w_FnExactIsStopping_j1 F aSet_2 aG_1 r_8 r_9 (r_10.2 != r_7.2)
theorem t11 (H : H11 D σ F) (aG_1 : (Int × (List (Int × Int)))) (aSet_2 : (List Int)) (aR_3 : Int) (s : Nat → V) (hs : Facts [(0, (.agg [(.int .i64 aG_1.1), (Enc.enc (aG_1.2 : List (Int × Int)))])), (1, (Enc.enc (aSet_2 : List Int))), (2, (.int .i64 aR_3))] s) (h : w_FnExactIsStopping F aG_1 aSet_2 aR_3 = some r) : Run D σ (R11 r) (.run A11 []) s := by
  unfold w_FnExactIsStopping at h
  obtain ⟨h0, h1, h2⟩ := hs
  refine .seq ?_
  refine run_reg ?_
  refine e_clr ?_
  refine e_end ?_
  refine g_box (.agg [(.int .i64 aG_1.1), (Enc.enc (aG_1.2 : List (Int × Int)))]) (rd_of (keep_clear (s := s) (pk := [3]) h0 rfl (map_agg (maps_cons rfl (maps_cons (Enc.map_enc _ (aG_1.2 : List (Int × Int))) maps_nil)))) rfl) (gone_clear (s := s) (pk := [3]) (t := 3) rfl) rfl ?_
  refine g_v0 (.bool false) rfl rfl ?_
  refine g_end ?_
  refine e_end ?_
  refine renew [(1, (Enc.enc (aSet_2 : List Int))), (2, (.int .i64 aR_3)), (3, (.ref (.bx 3) 0 [] (.agg [(.int .i64 aG_1.1), (Enc.enc (aG_1.2 : List (Int × Int)))]))), (6, (.bool false))] ⟨(keep_clear (s := s) (pk := [3]) h1 rfl (Enc.map_enc _ (aSet_2 : List Int))), (keep_clear (s := s) (pk := [3]) h2 rfl rfl), rfl, rfl⟩ ?_
  rintro s ⟨h1, h2, h3, h6⟩
  refine .nsq ?_
  refine .seq ?_
  refine .seq ?_
  refine run_reg ?_
  refine e_end ?_
  refine g_v1 (t := 1) (u := (Enc.enc (aSet_2 : List Int))) (Enc.enc (aSet_2 : List Int)) h1 rfl rfl ?_
  refine g_v (.int .i64 (aSet_2.length : Int)) (ev_len (xs := aSet_2) rfl) ?_
  refine g_v1 (t := 15) (u := (.int .i64 (aSet_2.length : Int))) (.bool (decide ((aSet_2.length : Int) > 1048576))) rfl rfl rfl ?_
  refine g_end ?_
  refine e_end ?_
  refine renew [(1, (Enc.enc (aSet_2 : List Int))), (2, (.int .i64 aR_3)), (3, (.ref (.bx 3) 0 [] (.agg [(.int .i64 aG_1.1), (Enc.enc (aG_1.2 : List (Int × Int)))]))), (6, (.bool false)), (16, (.bool (decide ((aSet_2.length : Int) > 1048576))))] ⟨h1, h2, h3, h6, rfl⟩ ?_
  rintro s ⟨h1, h2, h3, h6, h16⟩
  refine .nsq ?_
  refine run_cond (t := decide ((aSet_2.length : Int) > 1048576)) h16 h (fun h => ?_) (fun h => ?_)
  · refine .seq ?_
    refine run_reg ?_
    refine e_end ?_
    refine g_v0 (.bool true) rfl rfl ?_
    refine g_end ?_
    refine e_end ?_
    refine renew [(1, (Enc.enc (aSet_2 : List Int))), (2, (.int .i64 aR_3)), (3, (.ref (.bx 3) 0 [] (.agg [(.int .i64 aG_1.1), (Enc.enc (aG_1.2 : List (Int × Int)))]))), (6, (.bool true))] ⟨h1, h2, h3, rfl⟩ ?_
    rintro s ⟨h1, h2, h3, h6⟩
    refine .nsq ?_
    refine .ret ?_
    have hr := Option.some.inj h
    subst hr
    exact rrA (res_tmp h6) rfl
  · refine .skip ?_
    refine .nsq ?_
    refine .seq ?_
    refine run_reg ?_
    refine e_end ?_
    refine g_v0 (.int .i64 1048576) rfl rfl ?_
    refine g_end ?_
    refine e_end ?_
    refine renew [(1, (Enc.enc (aSet_2 : List Int))), (2, (.int .i64 aR_3)), (3, (.ref (.bx 3) 0 [] (.agg [(.int .i64 aG_1.1), (Enc.enc (aG_1.2 : List (Int × Int)))]))), (6, (.bool false)), (7, (.int .i64 1048576))] ⟨h1, h2, h3, h6, rfl⟩ ?_
    rintro s ⟨h1, h2, h3, h6, h7⟩
    refine .nsq ?_
    refine .seq ?_
    refine run_reg ?_
    refine e_end ?_
    refine g_v1 (t := 3) (u := (.ref (.bx 3) 0 [] (.agg [(.int .i64 aG_1.1), (Enc.enc (aG_1.2 : List (Int × Int)))]))) (.agg [(.int .i64 aG_1.1), (Enc.enc (aG_1.2 : List (Int × Int)))]) h3 rfl rfl ?_
    refine g_v1 (t := 7) (u := (.int .i64 1048576)) (.int .i64 1048576) h7 rfl rfl ?_
    obtain ⟨r_4, E_r_4, h⟩ := bind_some h
    refine g_call (m := 0) (al := false) (r := (Enc.enc (r_4 : Int))) [Enc.enc (aG_1 : (Int × (List (Int × Int)))), Enc.enc (1048576 : Int)] (ta_cons (v := (.agg [(.int .i64 aG_1.1), (Enc.enc (aG_1.2 : List (Int × Int)))])) rfl rfl (Enc.erase_enc (aG_1 : (Int × (List (Int × Int))))) (ta_cons (v := (.int .i64 1048576)) rfl rfl rfl ta_nil)) (H.c15 _ _ _ E_r_4) H.g15 rfl rfl rfl rfl ?_
    refine g_v1 (t := 19) (u := (.int .i64 r_4)) (.int .i64 r_4) rfl rfl rfl ?_
    refine g_end ?_
    refine e_end ?_
    refine renew [(1, (Enc.enc (aSet_2 : List Int))), (2, (.int .i64 aR_3)), (3, (.ref (.bx 3) 0 [] (.agg [(.int .i64 aG_1.1), (Enc.enc (aG_1.2 : List (Int × Int)))]))), (6, (.bool false)), (7, (.int .i64 r_4))] ⟨h1, h2, h3, h6, rfl⟩ ?_
    rintro s ⟨h1, h2, h3, h6, h7⟩
    refine .nsq ?_
    refine .seq ?_
    refine .seq ?_
    refine run_reg ?_
    refine e_end ?_
    refine g_v1 (t := 7) (u := (.int .i64 r_4)) (.int .i64 r_4) h7 rfl rfl ?_
    refine g_v1 (t := 20) (u := (.int .i64 r_4)) (.bool (decide (r_4 < 0))) rfl rfl rfl ?_
    refine g_end ?_
    refine e_end ?_
    refine renew [(1, (Enc.enc (aSet_2 : List Int))), (2, (.int .i64 aR_3)), (3, (.ref (.bx 3) 0 [] (.agg [(.int .i64 aG_1.1), (Enc.enc (aG_1.2 : List (Int × Int)))]))), (6, (.bool false)), (21, (.bool (decide (r_4 < 0))))] ⟨h1, h2, h3, h6, rfl⟩ ?_
    rintro s ⟨h1, h2, h3, h6, h21⟩
    refine .nsq ?_
    refine run_cond (t := decide (r_4 < 0)) h21 h (fun h => ?_) (fun h => ?_)
    · refine .seq ?_
      refine run_reg ?_
      refine e_end ?_
      refine g_v0 (.bool true) rfl rfl ?_
      refine g_end ?_
      refine e_end ?_
      refine renew [(1, (Enc.enc (aSet_2 : List Int))), (2, (.int .i64 aR_3)), (3, (.ref (.bx 3) 0 [] (.agg [(.int .i64 aG_1.1), (Enc.enc (aG_1.2 : List (Int × Int)))]))), (6, (.bool true))] ⟨h1, h2, h3, rfl⟩ ?_
      rintro s ⟨h1, h2, h3, h6⟩
      refine .nsq ?_
      refine .ret ?_
      have hr := Option.some.inj h
      subst hr
      exact rrA (res_tmp h6) rfl
    · refine .skip ?_
      refine .nsq ?_
      refine .seq ?_
      refine run_reg ?_
      refine e_end ?_
      refine g_v1 (t := 3) (u := (.ref (.bx 3) 0 [] (.agg [(.int .i64 aG_1.1), (Enc.enc (aG_1.2 : List (Int × Int)))]))) (.agg [(.int .i64 aG_1.1), (Enc.enc (aG_1.2 : List (Int × Int)))]) h3 rfl rfl ?_
      obtain ⟨r_5, E_r_5, h⟩ := bind_some h
      refine g_call (m := 0) (al := true) (r := (Enc.enc (r_5 : (Int × (List (Int × Int)))))) [Enc.enc (aG_1 : (Int × (List (Int × Int))))] (ta_cons (v := (.agg [(.int .i64 aG_1.1), (Enc.enc (aG_1.2 : List (Int × Int)))])) rfl rfl (Enc.erase_enc (aG_1 : (Int × (List (Int × Int))))) ta_nil) (H.c17 _ _ E_r_5) H.g17 (hal_of (ht_cons (v := (.agg [(.int .i64 aG_1.1), (Enc.enc (aG_1.2 : List (Int × Int)))])) rfl rfl rfl ht_nil)) rfl rfl rfl ?_
      refine g_v1 (t := 1) (u := (Enc.enc (aSet_2 : List Int))) (Enc.enc (aSet_2 : List Int)) h1 rfl rfl ?_
      obtain ⟨r_6, E_r_6, h⟩ := bind_some h
      refine g_call (m := 0) (al := false) (r := (Enc.enc (r_6 : (List Int)))) [Enc.enc (aSet_2 : (List Int))] (ta_cons (v := (Enc.enc (aSet_2 : List Int))) rfl rfl (Enc.erase_enc (aSet_2 : (List Int))) ta_nil) (H.c18 _ _ E_r_6) H.g18 rfl rfl rfl rfl ?_
      refine g_v1 (t := 2) (u := (.int .i64 aR_3)) (.int .i64 aR_3) h2 rfl rfl ?_
      obtain ⟨r_7, E_r_7, h⟩ := bind_some h
      refine g_call (m := 0) (al := false) (r := (.tup [Enc.enc (r_7.1 : Bool), Enc.enc (r_7.2 : Bool)])) [Enc.enc (r_5 : (Int × (List (Int × Int)))), Enc.enc (r_6 : (List Int)), Enc.enc (aR_3 : Int)] (ta_cons (v := (.agg [(.int .i64 r_5.1), (Enc.enc (r_5.2 : List (Int × Int)))])) rfl rfl (Enc.erase_enc (r_5 : (Int × (List (Int × Int))))) (ta_cons (v := (Enc.enc (r_6 : List Int))) rfl rfl (Enc.erase_enc (r_6 : (List Int))) (ta_cons (v := (.int .i64 aR_3)) rfl rfl rfl ta_nil))) (H.c36 _ _ _ _ E_r_7) H.g36 rfl rfl rfl rfl ?_
      refine g_v1 (t := 28) (u := (.tup [(.bool r_7.1), (.bool r_7.2)])) (.tup [(.bool r_7.1), (.bool r_7.2)]) rfl rfl rfl ?_
      refine g_v1 (t := 22) (u := (.tup [(.bool r_7.1), (.bool r_7.2)])) (.bool r_7.1) rfl rfl rfl ?_
      refine g_v1 (t := 22) (u := (.tup [(.bool r_7.1), (.bool r_7.2)])) (.bool r_7.2) rfl rfl rfl ?_
      refine g_v1 (t := 29) (u := (.bool r_7.1)) (.bool r_7.1) rfl rfl rfl ?_
      refine g_v1 (t := 30) (u := (.bool r_7.2)) (.bool r_7.2) rfl rfl rfl ?_
      refine g_end ?_
      refine e_end ?_
      refine renew [(1, (Enc.enc (aSet_2 : List Int))), (2, (.int .i64 aR_3)), (3, (.ref (.bx 3) 0 [] (.agg [(.int .i64 aG_1.1), (Enc.enc (aG_1.2 : List (Int × Int)))]))), (6, (.bool false)), (8, (.bool r_7.1)), (9, (.bool r_7.2))] ⟨h1, h2, h3, h6, rfl, rfl⟩ ?_
      rintro s ⟨h1, h2, h3, h6, h8, h9⟩
      refine .nsq ?_
      refine .seq ?_
      refine run_reg ?_
      refine e_clr ?_
      refine e_end ?_
      refine g_v1 (t := 3) (u := (.ref (.bx 3) 0 [] (.agg [(.int .i64 aG_1.1), (Enc.enc (aG_1.2 : List (Int × Int)))]))) (.agg [(.int .i64 aG_1.1), (Enc.enc (aG_1.2 : List (Int × Int)))]) (keep_clear (s := s) (pk := [10]) h3 rfl (map_bx rfl (map_agg (maps_cons rfl (maps_cons (Enc.map_enc _ (aG_1.2 : List (Int × Int))) maps_nil))))) rfl rfl ?_
      obtain ⟨r_8, E_r_8, h⟩ := bind_some h
      refine g_call (m := 0) (al := true) (r := (Enc.enc (r_8 : (Int × (List (Int × Int)))))) [Enc.enc (aG_1 : (Int × (List (Int × Int))))] (ta_cons (v := (.agg [(.int .i64 aG_1.1), (Enc.enc (aG_1.2 : List (Int × Int)))])) rfl rfl (Enc.erase_enc (aG_1 : (Int × (List (Int × Int))))) ta_nil) (H.c17 _ _ E_r_8) H.g17 (hal_of (ht_cons (v := (.agg [(.int .i64 aG_1.1), (Enc.enc (aG_1.2 : List (Int × Int)))])) rfl rfl rfl ht_nil)) rfl rfl rfl ?_
      refine g_alloc (gone_clear (s := s) (pk := [10]) (t := 10) rfl) ?_
      refine g_store (.agg [(.int .i64 r_8.1), (Enc.enc (r_8.2 : List (Int × Int)))]) (rd_of rfl rfl) (rd_of rfl rfl) (by refine ⟨by decide, by decide, rfl, rfl, rfl, ?_⟩; first | rfl | simp [V.toks, V.tokss, Enc.toks_enc]) ?_
      refine g_end ?_
      refine e_end ?_
      refine renew [(1, (Enc.enc (aSet_2 : List Int))), (2, (.int .i64 aR_3)), (3, (.ref (.bx 3) 0 [] (.agg [(.int .i64 aG_1.1), (Enc.enc (aG_1.2 : List (Int × Int)))]))), (6, (.bool false)), (8, (.bool r_7.1)), (9, (.bool r_7.2)), (10, (.ref (.bx 10) 0 [] (.agg [(.int .i64 r_8.1), (Enc.enc (r_8.2 : List (Int × Int)))])))] ⟨(keep_mut (keep_clear (s := s) (pk := [10]) h1 rfl (Enc.map_enc _ (aSet_2 : List Int))) (Enc.mut_enc _ _ _ _ (aSet_2 : List Int))), (keep_mut (keep_clear (s := s) (pk := [10]) h2 rfl rfl) rfl), (keep_mut (keep_clear (s := s) (pk := [10]) h3 rfl (map_bx rfl (map_agg (maps_cons rfl (maps_cons (Enc.map_enc _ (aG_1.2 : List (Int × Int))) maps_nil))))) (mut_ref_ne rfl rfl (mut_agg (muts_cons rfl (muts_cons (Enc.mut_enc _ _ _ _ (aG_1.2 : List (Int × Int))) rfl))))), (keep_mut (keep_clear (s := s) (pk := [10]) h6 rfl rfl) rfl), (keep_mut (keep_clear (s := s) (pk := [10]) h8 rfl rfl) rfl), (keep_mut (keep_clear (s := s) (pk := [10]) h9 rfl rfl) rfl), (keep_mut rfl rfl)⟩ ?_
      rintro s ⟨h1, h2, h3, h6, h8, h9, h10⟩
      refine .nsq ?_
      refine .seq ?_
      refine run_reg ?_
      refine e_end ?_
      refine g_v1 (t := 1) (u := (Enc.enc (aSet_2 : List Int))) (Enc.enc (aSet_2 : List Int)) h1 rfl rfl ?_
      obtain ⟨r_9, E_r_9, h⟩ := bind_some h
      refine g_call (m := 0) (al := false) (r := (Enc.enc (r_9 : (List Int)))) [Enc.enc (aSet_2 : (List Int))] (ta_cons (v := (Enc.enc (aSet_2 : List Int))) rfl rfl (Enc.erase_enc (aSet_2 : (List Int))) ta_nil) (H.c18 _ _ E_r_9) H.g18 rfl rfl rfl rfl ?_
      refine g_v1 (t := 34) (u := (Enc.enc (r_9 : List Int))) (Enc.enc (r_9 : List Int)) rfl rfl rfl ?_
      refine g_end ?_
      refine e_end ?_
      refine renew [(1, (Enc.enc (aSet_2 : List Int))), (2, (.int .i64 aR_3)), (3, (.ref (.bx 3) 0 [] (.agg [(.int .i64 aG_1.1), (Enc.enc (aG_1.2 : List (Int × Int)))]))), (6, (.bool false)), (8, (.bool r_7.1)), (9, (.bool r_7.2)), (10, (.ref (.bx 10) 0 [] (.agg [(.int .i64 r_8.1), (Enc.enc (r_8.2 : List (Int × Int)))]))), (11, (Enc.enc (r_9 : List Int)))] ⟨h1, h2, h3, h6, h8, h9, h10, rfl⟩ ?_
      rintro s ⟨h1, h2, h3, h6, h8, h9, h10, h11⟩
      refine .nsq ?_
      refine .seq ?_
      refine run_reg ?_
      refine e_end ?_
      refine g_v1 (t := 10) (u := (.ref (.bx 10) 0 [] (.agg [(.int .i64 r_8.1), (Enc.enc (r_8.2 : List (Int × Int)))]))) (.agg [(.int .i64 r_8.1), (Enc.enc (r_8.2 : List (Int × Int)))]) h10 rfl rfl ?_
      refine g_v1 (t := 11) (u := (Enc.enc (r_9 : List Int))) (Enc.enc (r_9 : List Int)) h11 rfl rfl ?_
      refine g_v1 (t := 2) (u := (.int .i64 aR_3)) (.int .i64 aR_3) h2 rfl rfl ?_
      obtain ⟨r_10, E_r_10, h⟩ := bind_some h
      refine g_call (m := 0) (al := false) (r := (.tup [Enc.enc (r_10.1 : Bool), Enc.enc (r_10.2 : Bool)])) [Enc.enc (r_8 : (Int × (List (Int × Int)))), Enc.enc (r_9 : (List Int)), Enc.enc (aR_3 : Int)] (ta_cons (v := (.agg [(.int .i64 r_8.1), (Enc.enc (r_8.2 : List (Int × Int)))])) rfl rfl (Enc.erase_enc (r_8 : (Int × (List (Int × Int))))) (ta_cons (v := (Enc.enc (r_9 : List Int))) rfl rfl (Enc.erase_enc (r_9 : (List Int))) (ta_cons (v := (.int .i64 aR_3)) rfl rfl rfl ta_nil))) (H.c37 _ _ _ _ E_r_10) H.g37 rfl rfl rfl rfl ?_
      refine g_v1 (t := 39) (u := (.tup [(.bool r_10.1), (.bool r_10.2)])) (.tup [(.bool r_10.1), (.bool r_10.2)]) rfl rfl rfl ?_
      refine g_v1 (t := 35) (u := (.tup [(.bool r_10.1), (.bool r_10.2)])) (.bool r_10.1) rfl rfl rfl ?_
      refine g_v1 (t := 35) (u := (.tup [(.bool r_10.1), (.bool r_10.2)])) (.bool r_10.2) rfl rfl rfl ?_
      refine g_v1 (t := 40) (u := (.bool r_10.1)) (.bool r_10.1) rfl rfl rfl ?_
      refine g_v1 (t := 41) (u := (.bool r_10.2)) (.bool r_10.2) rfl rfl rfl ?_
      refine g_end ?_
      refine e_end ?_
      refine renew [(1, (Enc.enc (aSet_2 : List Int))), (3, (.ref (.bx 3) 0 [] (.agg [(.int .i64 aG_1.1), (Enc.enc (aG_1.2 : List (Int × Int)))]))), (6, (.bool false)), (8, (.bool r_7.1)), (9, (.bool r_7.2)), (10, (.ref (.bx 10) 0 [] (.agg [(.int .i64 r_8.1), (Enc.enc (r_8.2 : List (Int × Int)))]))), (11, (Enc.enc (r_9 : List Int))), (12, (.bool r_10.1)), (13, (.bool r_10.2))] ⟨h1, h3, h6, h8, h9, h10, h11, rfl, rfl⟩ ?_
      rintro s ⟨h1, h3, h6, h8, h9, h10, h11, h12, h13⟩
      refine .nsq ?_
      refine .seq ?_
      refine .seq ?_
      refine run_reg ?_
      refine e_end ?_
      refine g_v1 (t := 12) (u := (.bool r_10.1)) (.bool r_10.1) h12 rfl rfl ?_
      refine g_v1 (t := 8) (u := (.bool r_7.1)) (.bool r_7.1) h8 rfl rfl ?_
      refine g_v2 (t1 := 42) (t2 := 43) (u1 := (.bool r_10.1)) (u2 := (.bool r_7.1)) (.bool (r_10.1 != r_7.1)) rfl rfl rfl rfl ?_
      refine g_v1 (t := 44) (u := (.bool (r_10.1 != r_7.1))) (.bool (r_10.1 != r_7.1)) rfl rfl rfl ?_
      refine split_on (c := (r_10.1 != r_7.1)) h (fun hg4 h => ?_) (fun hg4 h => ?_)
      · refine g_no (Eq.trans (b := .bool (r_10.1 != r_7.1)) rfl (congrArg V.bool hg4)) ?_
        refine g_no (Eq.trans (b := .bool (r_10.1 != r_7.1)) rfl (congrArg V.bool hg4)) ?_
        refine g_no (Eq.trans (b := .bool (r_10.1 != r_7.1)) rfl (congrArg V.bool hg4)) ?_
        refine g_v2 (t1 := 45) (t2 := 48) (u1 := (.bool true)) (u2 := (.tup [])) (.bool true) (Eq.trans (b := .bool (r_10.1 != r_7.1)) rfl (congrArg V.bool hg4)) rfl rfl rfl ?_
        refine g_end ?_
        refine e_end ?_
        refine renew [(1, (Enc.enc (aSet_2 : List Int))), (3, (.ref (.bx 3) 0 [] (.agg [(.int .i64 aG_1.1), (Enc.enc (aG_1.2 : List (Int × Int)))]))), (6, (.bool false)), (10, (.ref (.bx 10) 0 [] (.agg [(.int .i64 r_8.1), (Enc.enc (r_8.2 : List (Int × Int)))]))), (11, (Enc.enc (r_9 : List Int))), (49, (.bool true))] ⟨h1, h3, h6, h10, h11, rfl⟩ ?_
        rintro s ⟨h1, h3, h6, h10, h11, h49⟩
        exact t_f11_j1 H aSet_2 aG_1 r_8 r_9 true _ ⟨h1, h3, h6, h10, h11, h49⟩ h
      · refine g_yes (Eq.trans (b := .bool (r_10.1 != r_7.1)) rfl (congrArg V.bool hg4)) (g_v1 (t := 13) (u := (.bool r_10.2)) (.bool r_10.2) h13 rfl rfl ?_)
        refine g_yes (Eq.trans (b := .bool (r_10.1 != r_7.1)) rfl (congrArg V.bool hg4)) (g_v1 (t := 9) (u := (.bool r_7.2)) (.bool r_7.2) h9 rfl rfl ?_)
        refine g_yes (Eq.trans (b := .bool (r_10.1 != r_7.1)) rfl (congrArg V.bool hg4)) (g_v2 (t1 := 46) (t2 := 47) (u1 := (.bool r_10.2)) (u2 := (.bool r_7.2)) (.bool (r_10.2 != r_7.2)) rfl rfl rfl rfl ?_)
        refine g_v2 (t1 := 45) (t2 := 48) (u1 := (.bool false)) (u2 := (.bool (r_10.2 != r_7.2))) (.bool (r_10.2 != r_7.2)) (Eq.trans (b := .bool (r_10.1 != r_7.1)) rfl (congrArg V.bool hg4)) rfl rfl rfl ?_
        refine g_end ?_
        refine e_end ?_
        refine renew [(1, (Enc.enc (aSet_2 : List Int))), (3, (.ref (.bx 3) 0 [] (.agg [(.int .i64 aG_1.1), (Enc.enc (aG_1.2 : List (Int × Int)))]))), (6, (.bool false)), (10, (.ref (.bx 10) 0 [] (.agg [(.int .i64 r_8.1), (Enc.enc (r_8.2 : List (Int × Int)))]))), (11, (Enc.enc (r_9 : List Int))), (49, (.bool (r_10.2 != r_7.2)))] ⟨h1, h3, h6, h10, h11, rfl⟩ ?_
        rintro s ⟨h1, h3, h6, h10, h11, h49⟩
        exact t_f11_j1 H aSet_2 aG_1 r_8 r_9 (r_10.2 != r_7.2) _ ⟨h1, h3, h6, h10, h11, h49⟩ h
end
def e11 (F : Nat) : Ent := ⟨11, da (fun (x : ((Int × (List (Int × Int))) × (List Int) × Int × Unit)) => w_FnExactIsStopping F x.1 x.2.1 x.2.2.1) (fun (r : Bool) => (Enc.enc (r : Bool))), 0, false, selF []⟩
theorem p11 {F : Nat} {x0 : (Int × (List (Int × Int)))} {x1 : (List Int)} {x2 : Int} {r : Bool} (h : w_FnExactIsStopping F x0 x1 x2 = some r) : (e11 F).den [Enc.enc x0, Enc.enc x1, Enc.enc x2] = some (Enc.enc (r : Bool)) := da_put (f := fun (x : ((Int × (List (Int × Int))) × (List Int) × Int × Unit)) => w_FnExactIsStopping F x.1 x.2.1 x.2.2.1) (t := fun (r : Bool) => (Enc.enc (r : Bool))) (x0, x1, x2, ()) h
theorem o11 {D : Den} {σ : Sig} {F : Nat} (hF : Fits2 Try.prog D σ) (H : H11 D σ F) : (e11 F).Ok Try.prog := by
  refine ok_of (f := 11) (show unk 11 = 11 from rfl) (fun args r h => ?_) ⟨Try.f11, Try.func11, rfl, rfl⟩
  obtain ⟨⟨x0, x1, x2, _⟩, y, rfl, hy, rfl⟩ := da_open h
  exact contract_run hF (by kernel_rfl) Try.func11 rfl c11 (show 3 ≤ Try.f11.ntmps by decide) (t11 H x0 x1 x2 _ ⟨rfl, rfl, rfl⟩ hy)
end Go.Zq
