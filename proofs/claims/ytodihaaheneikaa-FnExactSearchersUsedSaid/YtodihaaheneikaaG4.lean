/- Functions of the program as typed functions, and that the machine runs as they say (part 4). No further condition. -/
import Derived.Test.YtodihaaheneikaaK2
import Derived.Test.YtodihaaheneikaaProg
import Derived.Test.YtodihaaheneikaaChecked
import Derived.KernelRfl
import Derived.Test.YtodihaaheneikaaG3
set_option linter.unusedVariables false
set_option linter.unusedSimpArgs false
/- Functions of the program, as typed functions, and that the machine runs as they say. -/
namespace Go.Zq
open Go.Proofs
/- loop.example/g01109/laws.eqIntS -/
def A17_2 : AC := (AC.cond (O.t 14) AC.skip (AC.exit 0))
def A17_4 : AC := (AC.cond (O.t 25) (AC.seq (AC.reg [] [(I.mk (some 4) none false (X.v (A.mov (O.k (V.bool false)))))] []) AC.ret) AC.skip)
def A17_5 : AC := (AC.reg [] [(I.mk (some 15) none false (X.v (A.mov (O.t 5)))), (I.mk (some 16) none false (X.v (A.bin BinOp.add (O.t 15) (O.k (V.int IntKind.i64 (Int.ofNat 1)))))), (I.mk (some 5) none false (X.v (A.mov (O.t 16))))] [])
def A17_3 : AC := (AC.seq (AC.block 1 (AC.seq (AC.reg [] [(I.mk (some 17) none false (X.v (A.mov (O.t 0)))), (I.mk (some 18) none false (X.v (A.mov (O.t 5)))), (I.mk (some 19) none false (X.v (A.idx (O.t 17) (O.t 18) 1))), (I.mk (some 20) none false (X.v (A.load Sh.s (O.t 19)))), (I.mk (some 21) none false (X.v (A.mov (O.t 1)))), (I.mk (some 22) none false (X.v (A.mov (O.t 5)))), (I.mk (some 23) none false (X.v (A.idx (O.t 21) (O.t 22) 1))), (I.mk (some 24) none false (X.v (A.load Sh.s (O.t 23)))), (I.mk (some 25) none false (X.v (A.bin BinOp.neq (O.t 20) (O.t 24))))] []) A17_4)) A17_5)
def A17_1 : AC := (AC.seq (AC.seq (AC.reg [] [(I.mk (some 11) none false (X.v (A.mov (O.t 5)))), (I.mk (some 12) none false (X.v (A.mov (O.t 0)))), (I.mk (some 13) none false (X.v (A.len (O.t 12)))), (I.mk (some 14) none false (X.v (A.bin BinOp.lss (O.t 11) (O.t 13))))] []) A17_2) A17_3)
def A17_6 : AC := (AC.seq (AC.reg [] [(I.mk (some 4) none false (X.v (A.mov (O.k (V.bool true)))))] []) AC.ret)
def A17_8 : AC := (AC.cond (O.t 10) (AC.seq (AC.reg [] [(I.mk (some 4) none false (X.v (A.mov (O.k (V.bool false)))))] []) AC.ret) AC.skip)
def A17_10 : AC := (AC.block 0 (AC.loop A17_1))
def A17_9 : AC := (AC.seq (AC.seq (AC.reg [] [(I.mk (some 5) none false (X.v (A.mov (O.k (V.int IntKind.i64 (Int.ofNat 0))))))] []) A17_10) A17_6)
def A17_7 : AC := (AC.seq (AC.seq (AC.reg [] [(I.mk (some 6) none false (X.v (A.mov (O.t 0)))), (I.mk (some 7) none false (X.v (A.len (O.t 6)))), (I.mk (some 8) none false (X.v (A.mov (O.t 1)))), (I.mk (some 9) none false (X.v (A.len (O.t 8)))), (I.mk (some 10) none false (X.v (A.bin BinOp.neq (O.t 7) (O.t 9))))] []) A17_8) A17_9)
def A17 : AC := (AC.seq (AC.reg [] [(I.mk (some 4) none false (X.v (A.mov (O.k (V.bool false)))))] []) A17_7)
def an17 : List An := []
theorem c17 : cC Try.prog Try.f17.ntmps an17 (Try.f17.body.getD .skip) = some A17 := by kernel_rfl
structure H17 (D : Den) (σ : Sig) (F : Nat) : Prop where
  mk ::
abbrev R17 (r : Bool) : (Nat → V) → Prop := RR Try.prog [.tmp 4] 0 false (Enc.enc (r : Bool))
section
variable {D : Den} {σ : Sig} {F : Nat} {r : Bool}
def w_eqIntS_l1 (F : Nat) (a_1 : (List Int)) (b_2 : (List Int))  : Nat → Int → Option Bool
  | 0, _ => none
  | k + 1, i_5 =>
    bif decide (i_5 < (a_1.length : Int)) then
      (idx a_1 i_5).bind fun e_8 =>
      (idx b_2 i_5).bind fun e_9 =>
      bif (e_8 != e_9) then
        some false
      else
        (w_eqIntS_l1 F a_1 b_2 k) (w64 (i_5 + 1))
    else
      some true
theorem t_f17_l1 (H : H17 D σ F) (a_1 : (List Int)) (b_2 : (List Int))  : ∀ (k : Nat) (i_5 : Int) (s : Nat → V), Facts [(0, (Enc.enc (a_1 : List Int))), (1, (Enc.enc (b_2 : List Int))), (4, (.bool false)), (5, (.int .i64 i_5))] s → w_eqIntS_l1 F a_1 b_2 k i_5 = some r → Run D σ (R17 r) (.run A17_1 [.lp A17_1, .bk 0, .sq A17_6]) s := by
  intro k
  induction k with
  | zero => intro i_5 s _ h; exact nomatch (h : (none : Option _) = some r)
  | succ k ih =>
    intro i_5 s hs h
    rw [w_eqIntS_l1] at h
    obtain ⟨h0, h1, h4, h5⟩ := hs
    refine .seq ?_
    refine .seq ?_
    refine run_reg ?_
    refine e_end ?_
    refine g_v1 (t := 5) (u := (.int .i64 i_5)) (.int .i64 i_5) h5 rfl rfl ?_
    refine g_v1 (t := 0) (u := (Enc.enc (a_1 : List Int))) (Enc.enc (a_1 : List Int)) h0 rfl rfl ?_
    refine g_v (.int .i64 (a_1.length : Int)) (ev_len (xs := a_1) rfl) ?_
    refine g_v2 (t1 := 11) (t2 := 13) (u1 := (.int .i64 i_5)) (u2 := (.int .i64 (a_1.length : Int))) (.bool (decide (i_5 < (a_1.length : Int)))) rfl rfl rfl rfl ?_
    refine g_end ?_
    refine e_end ?_
    refine renew [(0, (Enc.enc (a_1 : List Int))), (1, (Enc.enc (b_2 : List Int))), (4, (.bool false)), (5, (.int .i64 i_5)), (14, (.bool (decide (i_5 < (a_1.length : Int)))))] ⟨h0, h1, h4, h5, rfl⟩ ?_
    rintro s ⟨h0, h1, h4, h5, h14⟩
    refine .nsq ?_
    refine run_cond (t := decide (i_5 < (a_1.length : Int))) h14 h (fun h => ?_) (fun h => ?_)
    · refine .skip ?_
      refine .nsq ?_
      refine .seq ?_
      refine .block ?_
      refine .seq ?_
      refine run_reg ?_
      refine e_end ?_
      refine g_v1 (t := 0) (u := (Enc.enc (a_1 : List Int))) (Enc.enc (a_1 : List Int)) h0 rfl rfl ?_
      refine g_v1 (t := 5) (u := (.int .i64 i_5)) (.int .i64 i_5) h5 rfl rfl ?_
      obtain ⟨e_8, E_e_8, h⟩ := bind_some h
      refine g_v (.ref .sh 0 [] (.int .i64 e_8)) (ev_idx (t := .sh) (lo := 0) (xs := a_1) rfl rfl E_e_8 rfl rfl) ?_
      refine g_v1 (t := 19) (u := (.ref .sh 0 [] (.int .i64 e_8))) (.int .i64 e_8) rfl rfl rfl ?_
      refine g_v1 (t := 1) (u := (Enc.enc (b_2 : List Int))) (Enc.enc (b_2 : List Int)) h1 rfl rfl ?_
      refine g_v1 (t := 5) (u := (.int .i64 i_5)) (.int .i64 i_5) h5 rfl rfl ?_
      obtain ⟨e_9, E_e_9, h⟩ := bind_some h
      refine g_v (.ref .sh 0 [] (.int .i64 e_9)) (ev_idx (t := .sh) (lo := 0) (xs := b_2) rfl rfl E_e_9 rfl rfl) ?_
      refine g_v1 (t := 23) (u := (.ref .sh 0 [] (.int .i64 e_9))) (.int .i64 e_9) rfl rfl rfl ?_
      refine g_v2 (t1 := 20) (t2 := 24) (u1 := (.int .i64 e_8)) (u2 := (.int .i64 e_9)) (.bool (e_8 != e_9)) rfl rfl rfl rfl ?_
      refine g_end ?_
      refine e_end ?_
      refine renew [(0, (Enc.enc (a_1 : List Int))), (1, (Enc.enc (b_2 : List Int))), (4, (.bool false)), (5, (.int .i64 i_5)), (25, (.bool (e_8 != e_9)))] ⟨h0, h1, h4, h5, rfl⟩ ?_
      rintro s ⟨h0, h1, h4, h5, h25⟩
      refine .nsq ?_
      refine run_cond (t := (e_8 != e_9)) h25 h (fun h => ?_) (fun h => ?_)
      · refine .seq ?_
        refine run_reg ?_
        refine e_end ?_
        refine g_v0 (.bool false) rfl rfl ?_
        refine g_end ?_
        refine e_end ?_
        refine renew [(0, (Enc.enc (a_1 : List Int))), (1, (Enc.enc (b_2 : List Int))), (4, (.bool false)), (5, (.int .i64 i_5))] ⟨h0, h1, rfl, h5⟩ ?_
        rintro s ⟨h0, h1, h4, h5⟩
        refine .nsq ?_
        refine .ret ?_
        have hr := Option.some.inj h
        subst hr
        exact rrA (res_tmp h4) rfl
      · refine .skip ?_
        refine .nbk ?_
        refine .nsq ?_
        refine run_reg ?_
        refine e_end ?_
        refine g_v1 (t := 5) (u := (.int .i64 i_5)) (.int .i64 i_5) h5 rfl rfl ?_
        refine g_v1 (t := 15) (u := (.int .i64 i_5)) (.int .i64 (w64 (i_5 + 1))) rfl rfl rfl ?_
        refine g_v1 (t := 16) (u := (.int .i64 (w64 (i_5 + 1)))) (.int .i64 (w64 (i_5 + 1))) rfl rfl rfl ?_
        refine g_end ?_
        refine e_end ?_
        refine renew [(0, (Enc.enc (a_1 : List Int))), (1, (Enc.enc (b_2 : List Int))), (4, (.bool false)), (5, (.int .i64 (w64 (i_5 + 1))))] ⟨h0, h1, h4, rfl⟩ ?_
        rintro s ⟨h0, h1, h4, h5⟩
        refine .nlp ?_
        exact ih (w64 (i_5 + 1)) _ ⟨h0, h1, h4, h5⟩ h
    · refine .exit ?_
      refine .esq ?_
      refine .elp ?_
      refine .ebk ?_
      refine .nsq ?_
      refine .seq ?_
      refine run_reg ?_
      refine e_end ?_
      refine g_v0 (.bool true) rfl rfl ?_
      refine g_end ?_
      refine e_end ?_
      refine renew [(4, (.bool true))] rfl ?_
      rintro s h4
      refine .nsq ?_
      refine .ret ?_
      have hr := Option.some.inj h
      subst hr
      exact rrA (res_tmp h4) rfl
def w_eqIntS (F : Nat) (a_1 : (List Int)) (b_2 : (List Int)) : Option Bool :=
  bif ((a_1.length : Int) != (b_2.length : Int)) then
    some false
  else
    w_eqIntS_l1 F a_1 b_2 F 0
theorem t17 (H : H17 D σ F) (a_1 : (List Int)) (b_2 : (List Int)) (s : Nat → V) (hs : Facts [(0, (Enc.enc (a_1 : List Int))), (1, (Enc.enc (b_2 : List Int)))] s) (h : w_eqIntS F a_1 b_2 = some r) : Run D σ (R17 r) (.run A17 []) s := by
  unfold w_eqIntS at h
  obtain ⟨h0, h1⟩ := hs
  refine .seq ?_
  refine run_reg ?_
  refine e_end ?_
  refine g_v0 (.bool false) rfl rfl ?_
  refine g_end ?_
  refine e_end ?_
  refine renew [(0, (Enc.enc (a_1 : List Int))), (1, (Enc.enc (b_2 : List Int))), (4, (.bool false))] ⟨h0, h1, rfl⟩ ?_
  rintro s ⟨h0, h1, h4⟩
  refine .nsq ?_
  refine .seq ?_
  refine .seq ?_
  refine run_reg ?_
  refine e_end ?_
  refine g_v1 (t := 0) (u := (Enc.enc (a_1 : List Int))) (Enc.enc (a_1 : List Int)) h0 rfl rfl ?_
  refine g_v (.int .i64 (a_1.length : Int)) (ev_len (xs := a_1) rfl) ?_
  refine g_v1 (t := 1) (u := (Enc.enc (b_2 : List Int))) (Enc.enc (b_2 : List Int)) h1 rfl rfl ?_
  refine g_v (.int .i64 (b_2.length : Int)) (ev_len (xs := b_2) rfl) ?_
  refine g_v2 (t1 := 7) (t2 := 9) (u1 := (.int .i64 (a_1.length : Int))) (u2 := (.int .i64 (b_2.length : Int))) (.bool ((a_1.length : Int) != (b_2.length : Int))) rfl rfl rfl rfl ?_
  refine g_end ?_
  refine e_end ?_
  refine renew [(0, (Enc.enc (a_1 : List Int))), (1, (Enc.enc (b_2 : List Int))), (4, (.bool false)), (10, (.bool ((a_1.length : Int) != (b_2.length : Int))))] ⟨h0, h1, h4, rfl⟩ ?_
  rintro s ⟨h0, h1, h4, h10⟩
  refine .nsq ?_
  refine run_cond (t := ((a_1.length : Int) != (b_2.length : Int))) h10 h (fun h => ?_) (fun h => ?_)
  · refine .seq ?_
    refine run_reg ?_
    refine e_end ?_
    refine g_v0 (.bool false) rfl rfl ?_
    refine g_end ?_
    refine e_end ?_
    refine renew [(0, (Enc.enc (a_1 : List Int))), (1, (Enc.enc (b_2 : List Int))), (4, (.bool false))] ⟨h0, h1, rfl⟩ ?_
    rintro s ⟨h0, h1, h4⟩
    refine .nsq ?_
    refine .ret ?_
    have hr := Option.some.inj h
    subst hr
    exact rrA (res_tmp h4) rfl
  · refine .skip ?_
    refine .nsq ?_
    refine .seq ?_
    refine .seq ?_
    refine run_reg ?_
    refine e_end ?_
    refine g_v0 (.int .i64 0) rfl rfl ?_
    refine g_end ?_
    refine e_end ?_
    refine renew [(0, (Enc.enc (a_1 : List Int))), (1, (Enc.enc (b_2 : List Int))), (4, (.bool false)), (5, (.int .i64 0))] ⟨h0, h1, h4, rfl⟩ ?_
    rintro s ⟨h0, h1, h4, h5⟩
    refine .nsq ?_
    refine .block ?_
    refine .loop ?_
    exact t_f17_l1 H a_1 b_2 F 0 _ ⟨h0, h1, h4, h5⟩ h
end
def e17 (F : Nat) : Ent := ⟨17, da (fun (x : ((List Int) × (List Int) × Unit)) => w_eqIntS F x.1 x.2.1) (fun (r : Bool) => (Enc.enc (r : Bool))), 0, false, selF []⟩
theorem p17 {F : Nat} {x0 : (List Int)} {x1 : (List Int)} {r : Bool} (h : w_eqIntS F x0 x1 = some r) : (e17 F).den [Enc.enc x0, Enc.enc x1] = some (Enc.enc (r : Bool)) := da_put (f := fun (x : ((List Int) × (List Int) × Unit)) => w_eqIntS F x.1 x.2.1) (t := fun (r : Bool) => (Enc.enc (r : Bool))) (x0, x1, ()) h
theorem o17 {D : Den} {σ : Sig} {F : Nat} (hF : Fits2 Try.prog D σ) (H : H17 D σ F) : (e17 F).Ok Try.prog := by
  refine ⟨fun args r h => ?_, ⟨Try.f17, Try.func17, rfl, rfl⟩⟩
  obtain ⟨⟨x0, x1, _⟩, y, rfl, hy, rfl⟩ := da_open h
  exact contract_run hF (by kernel_rfl) Try.func17 rfl c17 (show 2 ≤ Try.f17.ntmps by decide) (t17 H x0 x1 _ ⟨rfl, rfl⟩ hy)
/- loop.example/g01109/laws.FnExactSearchersUsed -/
def A4_1 : AC := (AC.cond (O.t 45) (AC.seq (AC.reg [] [(I.mk (some 4) none false (X.v (A.mov (O.k (V.bool false)))))] []) AC.ret) AC.skip)
def A4_3 : AC := (AC.cond (O.t 50) (AC.seq (AC.reg [] [(I.mk (some 4) none false (X.v (A.mov (O.k (V.bool false)))))] []) AC.ret) AC.skip)
def A4_5 : AC := (AC.cond (O.t 55) (AC.seq (AC.reg [] [(I.mk (some 4) none false (X.v (A.mov (O.k (V.bool false)))))] []) AC.ret) AC.skip)
def A4_6 : AC := (AC.seq (AC.reg [] [(I.mk (some 4) none false (X.v (A.mov (O.k (V.bool true)))))] []) AC.ret)
def A4_4 : AC := (AC.seq (AC.seq (AC.reg [] [(I.mk (some 51) none false (X.v (A.mov (O.t 9)))), (I.mk (some 52) none false (X.v (A.mov (O.t 1)))), (I.mk (some 53) none false (X.call (O.k (V.fn 14 [] [])) [(O.t 52)])), (I.mk (some 54) none false (X.call (O.k (V.fn 17 [] [])) [(O.t 51), (O.t 53)])), (I.mk (some 55) none false (X.v (A.un UnOp.not (O.t 54))))] []) A4_5) A4_6)
def A4_2 : AC := (AC.seq (AC.seq (AC.reg [] [(I.mk (some 46) none false (X.v (A.load (Sh.ag [Sh.s, Sh.p]) (O.t 8)))), (I.mk (some 47) none false (X.v (A.load (Sh.ag [Sh.s, Sh.p]) (O.t 2)))), (I.mk (some 48) none false (X.call (O.k (V.fn 13 [] [])) [(O.t 47)])), (I.mk (some 49) none false (X.call (O.k (V.fn 16 [] [])) [(O.t 46), (O.t 48)])), (I.mk (some 50) none false (X.v (A.un UnOp.not (O.t 49))))] []) A4_3) A4_4)
def A4_8 : AC := (AC.cond (O.t 14) (AC.seq (AC.reg [] [(I.mk (some 4) none false (X.v (A.mov (O.k (V.bool true)))))] []) AC.ret) AC.skip)
def A4_12 : AC := (AC.cond (O.t 19) (AC.seq (AC.reg [] [(I.mk (some 4) none false (X.v (A.mov (O.k (V.bool true)))))] []) AC.ret) AC.skip)
def A4_17 : AC := (AC.seq (AC.seq (AC.reg [] [(I.mk (some 38) none false (X.v (A.mov (O.t 10)))), (I.mk (some 39) none false (X.v (A.mov (O.t 6)))), (I.mk (some 40) none false (X.v (A.bin BinOp.neq (O.t 38) (O.t 39)))), (I.mk (some 41) none false (X.v (A.mov (O.t 40)))), (I.mk (some 42) (some (41, false)) false (X.v (A.mov (O.t 11)))), (I.mk (some 43) (some (41, false)) false (X.v (A.mov (O.t 7)))), (I.mk (some 44) (some (41, false)) false (X.v (A.beq true (O.t 42) (O.t 43)))), (I.mk (some 45) none false (X.v (A.pick (O.t 41) (O.k (V.bool true)) (O.t 44))))] []) A4_1) A4_2)
def A4_16 : AC := (AC.seq (AC.reg [] [(I.mk (some 33) none false (X.v (A.load (Sh.ag [Sh.s, Sh.p]) (O.t 8)))), (I.mk (some 34) none false (X.v (A.mov (O.t 9)))), (I.mk (some 35) none false (X.call (O.k (V.fn 19 [] [])) [(O.t 33), (O.t 34)])), (I.mk (some 32) none false (X.v (A.mov (O.t 35)))), (I.mk (some 36) none false (X.v (A.extS (O.t 32) 0))), (I.mk (some 37) none false (X.v (A.extS (O.t 32) 1))), (I.mk (some 10) none false (X.v (A.mov (O.t 36)))), (I.mk (some 11) none false (X.v (A.mov (O.t 37))))] []) A4_17)
def A4_15 : AC := (AC.seq (AC.reg [] [(I.mk (some 30) none false (X.v (A.mov (O.t 1)))), (I.mk (some 31) none false (X.call (O.k (V.fn 14 [] [])) [(O.t 30)])), (I.mk (some 9) none false (X.v (A.mov (O.t 31))))] []) A4_16)
def A4_14 : AC := (AC.seq (AC.reg [.clr [8]] [(I.mk (some 28) none false (X.v (A.load (Sh.ag [Sh.s, Sh.p]) (O.t 2)))), (I.mk (some 29) none false (X.call (O.k (V.fn 13 [] [])) [(O.t 28)])), (I.mk (some 8) none false (X.alloc (V.agg [(V.int IntKind.i64 (Int.ofNat 0)), (V.sl Tok.nl (Sh.ag [Sh.s, Sh.s]) 0 [])]))), (I.mk none none false (X.store (Sh.ag [Sh.s, Sh.p]) (O.t 8) (O.t 29)))] []) A4_15)
def A4_13 : AC := (AC.seq (AC.reg [] [(I.mk (some 21) none false (X.v (A.load (Sh.ag [Sh.s, Sh.p]) (O.t 2)))), (I.mk (some 22) none false (X.call (O.k (V.fn 13 [] [])) [(O.t 21)])), (I.mk (some 23) none false (X.v (A.mov (O.t 1)))), (I.mk (some 24) none false (X.call (O.k (V.fn 14 [] [])) [(O.t 23)])), (I.mk (some 25) none false (X.call (O.k (V.fn 18 [] [])) [(O.t 22), (O.t 24)])), (I.mk (some 20) none false (X.v (A.mov (O.t 25)))), (I.mk (some 26) none false (X.v (A.extS (O.t 20) 0))), (I.mk (some 27) none false (X.v (A.extS (O.t 20) 1))), (I.mk (some 6) none false (X.v (A.mov (O.t 26)))), (I.mk (some 7) none false (X.v (A.mov (O.t 27))))] []) A4_14)
def A4_11 : AC := (AC.seq (AC.seq (AC.reg [] [(I.mk (some 18) none false (X.v (A.mov (O.t 5)))), (I.mk (some 19) none false (X.v (A.bin BinOp.lss (O.t 18) (O.k (V.int IntKind.i64 (Int.ofNat 0))))))] []) A4_12) A4_13)
def A4_10 : AC := (AC.seq (AC.reg [] [(I.mk (some 15) none false (X.v (A.load (Sh.ag [Sh.s, Sh.p]) (O.t 2)))), (I.mk (some 16) none false (X.v (A.mov (O.t 5)))), (I.mk (some 17) none false (X.call (O.k (V.fn 11 [] [])) [(O.t 15), (O.t 16)])), (I.mk (some 5) none false (X.v (A.mov (O.t 17))))] []) A4_11)
def A4_9 : AC := (AC.seq (AC.reg [] [(I.mk (some 5) none false (X.v (A.mov (O.k (V.int IntKind.i64 (Int.ofNat 1048576))))))] []) A4_10)
def A4_7 : AC := (AC.seq (AC.seq (AC.reg [] [(I.mk (some 12) none false (X.v (A.mov (O.t 1)))), (I.mk (some 13) none false (X.v (A.len (O.t 12)))), (I.mk (some 14) none false (X.v (A.bin BinOp.gtr (O.t 13) (O.k (V.int IntKind.i64 (Int.ofNat 1048576))))))] []) A4_8) A4_9)
def A4 : AC := (AC.seq (AC.reg [.clr [2]] [(I.mk (some 2) none false (X.box (O.t 0))), (I.mk (some 4) none false (X.v (A.mov (O.k (V.bool false)))))] []) A4_7)
def an4 : List An := [{ id := 0, pre := [.clr [2]], ep := [], lin := [], sp := [] }, { id := 8, pre := [.clr [8]], ep := [], lin := [], sp := [] }]
theorem c4 : cC Try.prog Try.f4.ntmps an4 (Try.f4.body.getD .skip) = some A4 := by kernel_rfl
structure H4 (D : Den) (σ : Sig) (F : Nat) : Prop where
  c11 : ∀ (x0 : (Int × (List (Int × Int)))) (x1 : Int) r, w_szGraph F x0 x1 = some r → D 11 [Enc.enc x0, Enc.enc x1] = some (Enc.enc (r : Int))
  g11 : σ 11 = some (0, false)
  c13 : ∀ (x0 : (Int × (List (Int × Int)))) r, w_toGraph F x0 = some r → D 13 [Enc.enc x0] = some (Enc.enc (r : (Int × (List (Int × Int)))))
  g13 : σ 13 = some (0, true)
  c14 : ∀ (x0 : (List Int)) r, w_toIntS F x0 = some r → D 14 [Enc.enc x0] = some (Enc.enc (r : (List Int)))
  g14 : σ 14 = some (0, false)
  c18 : ∀ (x0 : (Int × (List (Int × Int)))) (x1 : (List Int)) r, s_SearchersUsed F x0 x1 = some r → D 18 [Enc.enc x0, Enc.enc x1] = some (.tup [Enc.enc (r.1 : Int), Enc.enc (r.2 : Bool)])
  g18 : σ 18 = some (0, false)
  c19 : ∀ (x0 : (Int × (List (Int × Int)))) (x1 : (List Int)) r, i_SearchersUsed F x0 x1 = some r → D 19 [Enc.enc x0, Enc.enc x1] = some (.tup [Enc.enc (r.1 : Int), Enc.enc (r.2 : Bool)])
  g19 : σ 19 = some (0, false)
  c16 : ∀ (x0 : (Int × (List (Int × Int)))) (x1 : (Int × (List (Int × Int)))) r, w_eqGraph F x0 x1 = some r → D 16 [Enc.enc x0, Enc.enc x1] = some (Enc.enc (r : Bool))
  g16 : σ 16 = some (0, false)
  c17 : ∀ (x0 : (List Int)) (x1 : (List Int)) r, w_eqIntS F x0 x1 = some r → D 17 [Enc.enc x0, Enc.enc x1] = some (Enc.enc (r : Bool))
  g17 : σ 17 = some (0, false)
abbrev R4 (r : Bool) : (Nat → V) → Prop := RR Try.prog [.tmp 4] 0 false (Enc.enc (r : Bool))
section
variable {D : Den} {σ : Sig} {F : Nat} {r : Bool}
def w_FnExactSearchersUsed_j1 (F : Nat) (aProgram_2 : (List Int)) (aG_1 : (Int × (List (Int × Int)))) (r_7 : (Int × (List (Int × Int)))) (r_8 : (List Int))  (t45_10 : Bool) : Option Bool :=
  bif t45_10 then
    some false
  else
    (w_toGraph F aG_1).bind fun r_11 =>
    (w_eqGraph F r_7 r_11).bind fun r_12 =>
    bif (!r_12) then
      some false
    else
      (w_toIntS F aProgram_2).bind fun r_13 =>
      (w_eqIntS F r_8 r_13).bind fun r_14 =>
      bif (!r_14) then
        some false
      else
        some true
theorem t_f4_j1 (H : H4 D σ F) (aProgram_2 : (List Int)) (aG_1 : (Int × (List (Int × Int)))) (r_7 : (Int × (List (Int × Int)))) (r_8 : (List Int))  (t45_10 : Bool) (s : Nat → V) (hs : Facts [(1, (Enc.enc (aProgram_2 : List Int))), (2, (.ref (.bx 2) 0 [] (.agg [(.int .i64 aG_1.1), (Enc.enc (aG_1.2 : List (Int × Int)))]))), (4, (.bool false)), (8, (.ref (.bx 8) 0 [] (.agg [(.int .i64 r_7.1), (Enc.enc (r_7.2 : List (Int × Int)))]))), (9, (Enc.enc (r_8 : List Int))), (45, (.bool t45_10))] s) (h : w_FnExactSearchersUsed_j1 F aProgram_2 aG_1 r_7 r_8  t45_10 = some r) : Run D σ (R4 r) (.nrm [.sq A4_1, .sq A4_2]) s := by
  unfold w_FnExactSearchersUsed_j1 at h
  obtain ⟨h1, h2, h4, h8, h9, h45⟩ := hs
  refine .nsq ?_
  refine run_cond (t := t45_10) h45 h (fun h => ?_) (fun h => ?_)
  · refine .seq ?_
    refine run_reg ?_
    refine e_end ?_
    refine g_v0 (.bool false) rfl rfl ?_
    refine g_end ?_
    refine e_end ?_
    refine renew [(1, (Enc.enc (aProgram_2 : List Int))), (2, (.ref (.bx 2) 0 [] (.agg [(.int .i64 aG_1.1), (Enc.enc (aG_1.2 : List (Int × Int)))]))), (4, (.bool false)), (8, (.ref (.bx 8) 0 [] (.agg [(.int .i64 r_7.1), (Enc.enc (r_7.2 : List (Int × Int)))]))), (9, (Enc.enc (r_8 : List Int)))] ⟨h1, h2, rfl, h8, h9⟩ ?_
    rintro s ⟨h1, h2, h4, h8, h9⟩
    refine .nsq ?_
    refine .ret ?_
    have hr := Option.some.inj h
    subst hr
    exact rrA (res_tmp h4) rfl
  · refine .skip ?_
    refine .nsq ?_
    refine .seq ?_
    refine .seq ?_
    refine run_reg ?_
    refine e_end ?_
    refine g_v1 (t := 8) (u := (.ref (.bx 8) 0 [] (.agg [(.int .i64 r_7.1), (Enc.enc (r_7.2 : List (Int × Int)))]))) (.agg [(.int .i64 r_7.1), (Enc.enc (r_7.2 : List (Int × Int)))]) h8 rfl rfl ?_
    refine g_v1 (t := 2) (u := (.ref (.bx 2) 0 [] (.agg [(.int .i64 aG_1.1), (Enc.enc (aG_1.2 : List (Int × Int)))]))) (.agg [(.int .i64 aG_1.1), (Enc.enc (aG_1.2 : List (Int × Int)))]) h2 rfl rfl ?_
    obtain ⟨r_11, E_r_11, h⟩ := bind_some h
    refine g_call (m := 0) (al := true) (r := (Enc.enc (r_11 : (Int × (List (Int × Int)))))) [Enc.enc (aG_1 : (Int × (List (Int × Int))))] (ta_cons (v := (.agg [(.int .i64 aG_1.1), (Enc.enc (aG_1.2 : List (Int × Int)))])) rfl rfl (Enc.erase_enc (aG_1 : (Int × (List (Int × Int))))) ta_nil) (H.c13 _ _ E_r_11) H.g13 (hal_of (ht_cons (v := (.agg [(.int .i64 aG_1.1), (Enc.enc (aG_1.2 : List (Int × Int)))])) rfl rfl rfl ht_nil)) rfl rfl rfl ?_
    obtain ⟨r_12, E_r_12, h⟩ := bind_some h
    refine g_call (m := 0) (al := false) (r := (Enc.enc (r_12 : Bool))) [Enc.enc (r_7 : (Int × (List (Int × Int)))), Enc.enc (r_11 : (Int × (List (Int × Int))))] (ta_cons (v := (.agg [(.int .i64 r_7.1), (Enc.enc (r_7.2 : List (Int × Int)))])) rfl rfl (Enc.erase_enc (r_7 : (Int × (List (Int × Int))))) (ta_cons (v := (.agg [(.int .i64 r_11.1), (Enc.enc (r_11.2 : List (Int × Int)))])) rfl rfl (Enc.erase_enc (r_11 : (Int × (List (Int × Int))))) ta_nil)) (H.c16 _ _ _ E_r_12) H.g16 rfl rfl rfl rfl ?_
    refine g_v1 (t := 49) (u := (.bool r_12)) (.bool (!r_12)) rfl rfl rfl ?_
    refine g_end ?_
    refine e_end ?_
    refine renew [(1, (Enc.enc (aProgram_2 : List Int))), (4, (.bool false)), (9, (Enc.enc (r_8 : List Int))), (50, (.bool (!r_12)))] ⟨h1, h4, h9, rfl⟩ ?_
    rintro s ⟨h1, h4, h9, h50⟩
    refine .nsq ?_
    refine run_cond (t := (!r_12)) h50 h (fun h => ?_) (fun h => ?_)
    · refine .seq ?_
      refine run_reg ?_
      refine e_end ?_
      refine g_v0 (.bool false) rfl rfl ?_
      refine g_end ?_
      refine e_end ?_
      refine renew [(1, (Enc.enc (aProgram_2 : List Int))), (4, (.bool false)), (9, (Enc.enc (r_8 : List Int)))] ⟨h1, rfl, h9⟩ ?_
      rintro s ⟨h1, h4, h9⟩
      refine .nsq ?_
      refine .ret ?_
      have hr := Option.some.inj h
      subst hr
      exact rrA (res_tmp h4) rfl
    · refine .skip ?_
      refine .nsq ?_
      refine .seq ?_
      refine .seq ?_
      refine run_reg ?_
      refine e_end ?_
      refine g_v1 (t := 9) (u := (Enc.enc (r_8 : List Int))) (Enc.enc (r_8 : List Int)) h9 rfl rfl ?_
      refine g_v1 (t := 1) (u := (Enc.enc (aProgram_2 : List Int))) (Enc.enc (aProgram_2 : List Int)) h1 rfl rfl ?_
      obtain ⟨r_13, E_r_13, h⟩ := bind_some h
      refine g_call (m := 0) (al := false) (r := (Enc.enc (r_13 : (List Int)))) [Enc.enc (aProgram_2 : (List Int))] (ta_cons (v := (Enc.enc (aProgram_2 : List Int))) rfl rfl (Enc.erase_enc (aProgram_2 : (List Int))) ta_nil) (H.c14 _ _ E_r_13) H.g14 rfl rfl rfl rfl ?_
      obtain ⟨r_14, E_r_14, h⟩ := bind_some h
      refine g_call (m := 0) (al := false) (r := (Enc.enc (r_14 : Bool))) [Enc.enc (r_8 : (List Int)), Enc.enc (r_13 : (List Int))] (ta_cons (v := (Enc.enc (r_8 : List Int))) rfl rfl (Enc.erase_enc (r_8 : (List Int))) (ta_cons (v := (Enc.enc (r_13 : List Int))) rfl rfl (Enc.erase_enc (r_13 : (List Int))) ta_nil)) (H.c17 _ _ _ E_r_14) H.g17 rfl rfl rfl rfl ?_
      refine g_v1 (t := 54) (u := (.bool r_14)) (.bool (!r_14)) rfl rfl rfl ?_
      refine g_end ?_
      refine e_end ?_
      refine renew [(4, (.bool false)), (55, (.bool (!r_14)))] ⟨h4, rfl⟩ ?_
      rintro s ⟨h4, h55⟩
      refine .nsq ?_
      refine run_cond (t := (!r_14)) h55 h (fun h => ?_) (fun h => ?_)
      · refine .seq ?_
        refine run_reg ?_
        refine e_end ?_
        refine g_v0 (.bool false) rfl rfl ?_
        refine g_end ?_
        refine e_end ?_
        refine renew [(4, (.bool false))] rfl ?_
        rintro s h4
        refine .nsq ?_
        refine .ret ?_
        have hr := Option.some.inj h
        subst hr
        exact rrA (res_tmp h4) rfl
      · refine .skip ?_
        refine .nsq ?_
        refine .seq ?_
        refine run_reg ?_
        refine e_end ?_
        refine g_v0 (.bool true) rfl rfl ?_
        refine g_end ?_
        refine e_end ?_
        refine renew [(4, (.bool true))] rfl ?_
        rintro s h4
        refine .nsq ?_
        refine .ret ?_
        have hr := Option.some.inj h
        subst hr
        exact rrA (res_tmp h4) rfl
def w_FnExactSearchersUsed (F : Nat) (aG_1 : (Int × (List (Int × Int)))) (aProgram_2 : (List Int)) : Option Bool :=
  bif decide ((aProgram_2.length : Int) > 1048576) then
    some true
  else
    (w_szGraph F aG_1 1048576).bind fun r_3 =>
    bif decide (r_3 < 0) then
      some true
    else
      (w_toGraph F aG_1).bind fun r_4 =>
      (w_toIntS F aProgram_2).bind fun r_5 =>
      (s_SearchersUsed F r_4 r_5).bind fun r_6 =>
      (w_toGraph F aG_1).bind fun r_7 =>
      (w_toIntS F aProgram_2).bind fun r_8 =>
      (i_SearchersUsed F r_7 r_8).bind fun r_9 =>
      bif (r_9.1 != r_6.1) then
        w_FnExactSearchersUsed_j1 F aProgram_2 aG_1 r_7 r_8 true
      else
        w_FnExactSearchersUsed_j1 F aProgram_2 aG_1 r_7 r_8 (r_9.2 != r_6.2)
theorem t4 (H : H4 D σ F) (aG_1 : (Int × (List (Int × Int)))) (aProgram_2 : (List Int)) (s : Nat → V) (hs : Facts [(0, (.agg [(.int .i64 aG_1.1), (Enc.enc (aG_1.2 : List (Int × Int)))])), (1, (Enc.enc (aProgram_2 : List Int)))] s) (h : w_FnExactSearchersUsed F aG_1 aProgram_2 = some r) : Run D σ (R4 r) (.run A4 []) s := by
  unfold w_FnExactSearchersUsed at h
  obtain ⟨h0, h1⟩ := hs
  refine .seq ?_
  refine run_reg ?_
  refine e_clr ?_
  refine e_end ?_
  refine g_box (.agg [(.int .i64 aG_1.1), (Enc.enc (aG_1.2 : List (Int × Int)))]) (rd_of (keep_clear (s := s) (pk := [2]) h0 rfl (map_agg (maps_cons rfl (maps_cons (Enc.map_enc _ (aG_1.2 : List (Int × Int))) maps_nil)))) rfl) (gone_clear (s := s) (pk := [2]) (t := 2) rfl) rfl ?_
  refine g_v0 (.bool false) rfl rfl ?_
  refine g_end ?_
  refine e_end ?_
  refine renew [(1, (Enc.enc (aProgram_2 : List Int))), (2, (.ref (.bx 2) 0 [] (.agg [(.int .i64 aG_1.1), (Enc.enc (aG_1.2 : List (Int × Int)))]))), (4, (.bool false))] ⟨(keep_clear (s := s) (pk := [2]) h1 rfl (Enc.map_enc _ (aProgram_2 : List Int))), rfl, rfl⟩ ?_
  rintro s ⟨h1, h2, h4⟩
  refine .nsq ?_
  refine .seq ?_
  refine .seq ?_
  refine run_reg ?_
  refine e_end ?_
  refine g_v1 (t := 1) (u := (Enc.enc (aProgram_2 : List Int))) (Enc.enc (aProgram_2 : List Int)) h1 rfl rfl ?_
  refine g_v (.int .i64 (aProgram_2.length : Int)) (ev_len (xs := aProgram_2) rfl) ?_
  refine g_v1 (t := 13) (u := (.int .i64 (aProgram_2.length : Int))) (.bool (decide ((aProgram_2.length : Int) > 1048576))) rfl rfl rfl ?_
  refine g_end ?_
  refine e_end ?_
  refine renew [(1, (Enc.enc (aProgram_2 : List Int))), (2, (.ref (.bx 2) 0 [] (.agg [(.int .i64 aG_1.1), (Enc.enc (aG_1.2 : List (Int × Int)))]))), (4, (.bool false)), (14, (.bool (decide ((aProgram_2.length : Int) > 1048576))))] ⟨h1, h2, h4, rfl⟩ ?_
  rintro s ⟨h1, h2, h4, h14⟩
  refine .nsq ?_
  refine run_cond (t := decide ((aProgram_2.length : Int) > 1048576)) h14 h (fun h => ?_) (fun h => ?_)
  · refine .seq ?_
    refine run_reg ?_
    refine e_end ?_
    refine g_v0 (.bool true) rfl rfl ?_
    refine g_end ?_
    refine e_end ?_
    refine renew [(1, (Enc.enc (aProgram_2 : List Int))), (2, (.ref (.bx 2) 0 [] (.agg [(.int .i64 aG_1.1), (Enc.enc (aG_1.2 : List (Int × Int)))]))), (4, (.bool true))] ⟨h1, h2, rfl⟩ ?_
    rintro s ⟨h1, h2, h4⟩
    refine .nsq ?_
    refine .ret ?_
    have hr := Option.some.inj h
    subst hr
    exact rrA (res_tmp h4) rfl
  · refine .skip ?_
    refine .nsq ?_
    refine .seq ?_
    refine run_reg ?_
    refine e_end ?_
    refine g_v0 (.int .i64 1048576) rfl rfl ?_
    refine g_end ?_
    refine e_end ?_
    refine renew [(1, (Enc.enc (aProgram_2 : List Int))), (2, (.ref (.bx 2) 0 [] (.agg [(.int .i64 aG_1.1), (Enc.enc (aG_1.2 : List (Int × Int)))]))), (4, (.bool false)), (5, (.int .i64 1048576))] ⟨h1, h2, h4, rfl⟩ ?_
    rintro s ⟨h1, h2, h4, h5⟩
    refine .nsq ?_
    refine .seq ?_
    refine run_reg ?_
    refine e_end ?_
    refine g_v1 (t := 2) (u := (.ref (.bx 2) 0 [] (.agg [(.int .i64 aG_1.1), (Enc.enc (aG_1.2 : List (Int × Int)))]))) (.agg [(.int .i64 aG_1.1), (Enc.enc (aG_1.2 : List (Int × Int)))]) h2 rfl rfl ?_
    refine g_v1 (t := 5) (u := (.int .i64 1048576)) (.int .i64 1048576) h5 rfl rfl ?_
    obtain ⟨r_3, E_r_3, h⟩ := bind_some h
    refine g_call (m := 0) (al := false) (r := (Enc.enc (r_3 : Int))) [Enc.enc (aG_1 : (Int × (List (Int × Int)))), Enc.enc (1048576 : Int)] (ta_cons (v := (.agg [(.int .i64 aG_1.1), (Enc.enc (aG_1.2 : List (Int × Int)))])) rfl rfl (Enc.erase_enc (aG_1 : (Int × (List (Int × Int))))) (ta_cons (v := (.int .i64 1048576)) rfl rfl rfl ta_nil)) (H.c11 _ _ _ E_r_3) H.g11 rfl rfl rfl rfl ?_
    refine g_v1 (t := 17) (u := (.int .i64 r_3)) (.int .i64 r_3) rfl rfl rfl ?_
    refine g_end ?_
    refine e_end ?_
    refine renew [(1, (Enc.enc (aProgram_2 : List Int))), (2, (.ref (.bx 2) 0 [] (.agg [(.int .i64 aG_1.1), (Enc.enc (aG_1.2 : List (Int × Int)))]))), (4, (.bool false)), (5, (.int .i64 r_3))] ⟨h1, h2, h4, rfl⟩ ?_
    rintro s ⟨h1, h2, h4, h5⟩
    refine .nsq ?_
    refine .seq ?_
    refine .seq ?_
    refine run_reg ?_
    refine e_end ?_
    refine g_v1 (t := 5) (u := (.int .i64 r_3)) (.int .i64 r_3) h5 rfl rfl ?_
    refine g_v1 (t := 18) (u := (.int .i64 r_3)) (.bool (decide (r_3 < 0))) rfl rfl rfl ?_
    refine g_end ?_
    refine e_end ?_
    refine renew [(1, (Enc.enc (aProgram_2 : List Int))), (2, (.ref (.bx 2) 0 [] (.agg [(.int .i64 aG_1.1), (Enc.enc (aG_1.2 : List (Int × Int)))]))), (4, (.bool false)), (19, (.bool (decide (r_3 < 0))))] ⟨h1, h2, h4, rfl⟩ ?_
    rintro s ⟨h1, h2, h4, h19⟩
    refine .nsq ?_
    refine run_cond (t := decide (r_3 < 0)) h19 h (fun h => ?_) (fun h => ?_)
    · refine .seq ?_
      refine run_reg ?_
      refine e_end ?_
      refine g_v0 (.bool true) rfl rfl ?_
      refine g_end ?_
      refine e_end ?_
      refine renew [(1, (Enc.enc (aProgram_2 : List Int))), (2, (.ref (.bx 2) 0 [] (.agg [(.int .i64 aG_1.1), (Enc.enc (aG_1.2 : List (Int × Int)))]))), (4, (.bool true))] ⟨h1, h2, rfl⟩ ?_
      rintro s ⟨h1, h2, h4⟩
      refine .nsq ?_
      refine .ret ?_
      have hr := Option.some.inj h
      subst hr
      exact rrA (res_tmp h4) rfl
    · refine .skip ?_
      refine .nsq ?_
      refine .seq ?_
      refine run_reg ?_
      refine e_end ?_
      refine g_v1 (t := 2) (u := (.ref (.bx 2) 0 [] (.agg [(.int .i64 aG_1.1), (Enc.enc (aG_1.2 : List (Int × Int)))]))) (.agg [(.int .i64 aG_1.1), (Enc.enc (aG_1.2 : List (Int × Int)))]) h2 rfl rfl ?_
      obtain ⟨r_4, E_r_4, h⟩ := bind_some h
      refine g_call (m := 0) (al := true) (r := (Enc.enc (r_4 : (Int × (List (Int × Int)))))) [Enc.enc (aG_1 : (Int × (List (Int × Int))))] (ta_cons (v := (.agg [(.int .i64 aG_1.1), (Enc.enc (aG_1.2 : List (Int × Int)))])) rfl rfl (Enc.erase_enc (aG_1 : (Int × (List (Int × Int))))) ta_nil) (H.c13 _ _ E_r_4) H.g13 (hal_of (ht_cons (v := (.agg [(.int .i64 aG_1.1), (Enc.enc (aG_1.2 : List (Int × Int)))])) rfl rfl rfl ht_nil)) rfl rfl rfl ?_
      refine g_v1 (t := 1) (u := (Enc.enc (aProgram_2 : List Int))) (Enc.enc (aProgram_2 : List Int)) h1 rfl rfl ?_
      obtain ⟨r_5, E_r_5, h⟩ := bind_some h
      refine g_call (m := 0) (al := false) (r := (Enc.enc (r_5 : (List Int)))) [Enc.enc (aProgram_2 : (List Int))] (ta_cons (v := (Enc.enc (aProgram_2 : List Int))) rfl rfl (Enc.erase_enc (aProgram_2 : (List Int))) ta_nil) (H.c14 _ _ E_r_5) H.g14 rfl rfl rfl rfl ?_
      obtain ⟨r_6, E_r_6, h⟩ := bind_some h
      refine g_call (m := 0) (al := false) (r := (.tup [Enc.enc (r_6.1 : Int), Enc.enc (r_6.2 : Bool)])) [Enc.enc (r_4 : (Int × (List (Int × Int)))), Enc.enc (r_5 : (List Int))] (ta_cons (v := (.agg [(.int .i64 r_4.1), (Enc.enc (r_4.2 : List (Int × Int)))])) rfl rfl (Enc.erase_enc (r_4 : (Int × (List (Int × Int))))) (ta_cons (v := (Enc.enc (r_5 : List Int))) rfl rfl (Enc.erase_enc (r_5 : (List Int))) ta_nil)) (H.c18 _ _ _ E_r_6) H.g18 rfl rfl rfl rfl ?_
      refine g_v1 (t := 25) (u := (.tup [(.int .i64 r_6.1), (.bool r_6.2)])) (.tup [(.int .i64 r_6.1), (.bool r_6.2)]) rfl rfl rfl ?_
      refine g_v1 (t := 20) (u := (.tup [(.int .i64 r_6.1), (.bool r_6.2)])) (.int .i64 r_6.1) rfl rfl rfl ?_
      refine g_v1 (t := 20) (u := (.tup [(.int .i64 r_6.1), (.bool r_6.2)])) (.bool r_6.2) rfl rfl rfl ?_
      refine g_v1 (t := 26) (u := (.int .i64 r_6.1)) (.int .i64 r_6.1) rfl rfl rfl ?_
      refine g_v1 (t := 27) (u := (.bool r_6.2)) (.bool r_6.2) rfl rfl rfl ?_
      refine g_end ?_
      refine e_end ?_
      refine renew [(1, (Enc.enc (aProgram_2 : List Int))), (2, (.ref (.bx 2) 0 [] (.agg [(.int .i64 aG_1.1), (Enc.enc (aG_1.2 : List (Int × Int)))]))), (4, (.bool false)), (6, (.int .i64 r_6.1)), (7, (.bool r_6.2))] ⟨h1, h2, h4, rfl, rfl⟩ ?_
      rintro s ⟨h1, h2, h4, h6, h7⟩
      refine .nsq ?_
      refine .seq ?_
      refine run_reg ?_
      refine e_clr ?_
      refine e_end ?_
      refine g_v1 (t := 2) (u := (.ref (.bx 2) 0 [] (.agg [(.int .i64 aG_1.1), (Enc.enc (aG_1.2 : List (Int × Int)))]))) (.agg [(.int .i64 aG_1.1), (Enc.enc (aG_1.2 : List (Int × Int)))]) (keep_clear (s := s) (pk := [8]) h2 rfl (map_bx rfl (map_agg (maps_cons rfl (maps_cons (Enc.map_enc _ (aG_1.2 : List (Int × Int))) maps_nil))))) rfl rfl ?_
      obtain ⟨r_7, E_r_7, h⟩ := bind_some h
      refine g_call (m := 0) (al := true) (r := (Enc.enc (r_7 : (Int × (List (Int × Int)))))) [Enc.enc (aG_1 : (Int × (List (Int × Int))))] (ta_cons (v := (.agg [(.int .i64 aG_1.1), (Enc.enc (aG_1.2 : List (Int × Int)))])) rfl rfl (Enc.erase_enc (aG_1 : (Int × (List (Int × Int))))) ta_nil) (H.c13 _ _ E_r_7) H.g13 (hal_of (ht_cons (v := (.agg [(.int .i64 aG_1.1), (Enc.enc (aG_1.2 : List (Int × Int)))])) rfl rfl rfl ht_nil)) rfl rfl rfl ?_
      refine g_alloc (gone_clear (s := s) (pk := [8]) (t := 8) rfl) ?_
      refine g_store (.agg [(.int .i64 r_7.1), (Enc.enc (r_7.2 : List (Int × Int)))]) (rd_of rfl rfl) (rd_of rfl rfl) (by refine ⟨by decide, by decide, rfl, rfl, rfl, ?_⟩; first | rfl | simp [V.toks, V.tokss, Enc.toks_enc]) ?_
      refine g_end ?_
      refine e_end ?_
      refine renew [(1, (Enc.enc (aProgram_2 : List Int))), (2, (.ref (.bx 2) 0 [] (.agg [(.int .i64 aG_1.1), (Enc.enc (aG_1.2 : List (Int × Int)))]))), (4, (.bool false)), (6, (.int .i64 r_6.1)), (7, (.bool r_6.2)), (8, (.ref (.bx 8) 0 [] (.agg [(.int .i64 r_7.1), (Enc.enc (r_7.2 : List (Int × Int)))])))] ⟨(keep_mut (keep_clear (s := s) (pk := [8]) h1 rfl (Enc.map_enc _ (aProgram_2 : List Int))) (Enc.mut_enc _ _ _ _ (aProgram_2 : List Int))), (keep_mut (keep_clear (s := s) (pk := [8]) h2 rfl (map_bx rfl (map_agg (maps_cons rfl (maps_cons (Enc.map_enc _ (aG_1.2 : List (Int × Int))) maps_nil))))) (mut_ref_ne rfl rfl (mut_agg (muts_cons rfl (muts_cons (Enc.mut_enc _ _ _ _ (aG_1.2 : List (Int × Int))) rfl))))), (keep_mut (keep_clear (s := s) (pk := [8]) h4 rfl rfl) rfl), (keep_mut (keep_clear (s := s) (pk := [8]) h6 rfl rfl) rfl), (keep_mut (keep_clear (s := s) (pk := [8]) h7 rfl rfl) rfl), (keep_mut rfl rfl)⟩ ?_
      rintro s ⟨h1, h2, h4, h6, h7, h8⟩
      refine .nsq ?_
      refine .seq ?_
      refine run_reg ?_
      refine e_end ?_
      refine g_v1 (t := 1) (u := (Enc.enc (aProgram_2 : List Int))) (Enc.enc (aProgram_2 : List Int)) h1 rfl rfl ?_
      obtain ⟨r_8, E_r_8, h⟩ := bind_some h
      refine g_call (m := 0) (al := false) (r := (Enc.enc (r_8 : (List Int)))) [Enc.enc (aProgram_2 : (List Int))] (ta_cons (v := (Enc.enc (aProgram_2 : List Int))) rfl rfl (Enc.erase_enc (aProgram_2 : (List Int))) ta_nil) (H.c14 _ _ E_r_8) H.g14 rfl rfl rfl rfl ?_
      refine g_v1 (t := 31) (u := (Enc.enc (r_8 : List Int))) (Enc.enc (r_8 : List Int)) rfl rfl rfl ?_
      refine g_end ?_
      refine e_end ?_
      refine renew [(1, (Enc.enc (aProgram_2 : List Int))), (2, (.ref (.bx 2) 0 [] (.agg [(.int .i64 aG_1.1), (Enc.enc (aG_1.2 : List (Int × Int)))]))), (4, (.bool false)), (6, (.int .i64 r_6.1)), (7, (.bool r_6.2)), (8, (.ref (.bx 8) 0 [] (.agg [(.int .i64 r_7.1), (Enc.enc (r_7.2 : List (Int × Int)))]))), (9, (Enc.enc (r_8 : List Int)))] ⟨h1, h2, h4, h6, h7, h8, rfl⟩ ?_
      rintro s ⟨h1, h2, h4, h6, h7, h8, h9⟩
      refine .nsq ?_
      refine .seq ?_
      refine run_reg ?_
      refine e_end ?_
      refine g_v1 (t := 8) (u := (.ref (.bx 8) 0 [] (.agg [(.int .i64 r_7.1), (Enc.enc (r_7.2 : List (Int × Int)))]))) (.agg [(.int .i64 r_7.1), (Enc.enc (r_7.2 : List (Int × Int)))]) h8 rfl rfl ?_
      refine g_v1 (t := 9) (u := (Enc.enc (r_8 : List Int))) (Enc.enc (r_8 : List Int)) h9 rfl rfl ?_
      obtain ⟨r_9, E_r_9, h⟩ := bind_some h
      refine g_call (m := 0) (al := false) (r := (.tup [Enc.enc (r_9.1 : Int), Enc.enc (r_9.2 : Bool)])) [Enc.enc (r_7 : (Int × (List (Int × Int)))), Enc.enc (r_8 : (List Int))] (ta_cons (v := (.agg [(.int .i64 r_7.1), (Enc.enc (r_7.2 : List (Int × Int)))])) rfl rfl (Enc.erase_enc (r_7 : (Int × (List (Int × Int))))) (ta_cons (v := (Enc.enc (r_8 : List Int))) rfl rfl (Enc.erase_enc (r_8 : (List Int))) ta_nil)) (H.c19 _ _ _ E_r_9) H.g19 rfl rfl rfl rfl ?_
      refine g_v1 (t := 35) (u := (.tup [(.int .i64 r_9.1), (.bool r_9.2)])) (.tup [(.int .i64 r_9.1), (.bool r_9.2)]) rfl rfl rfl ?_
      refine g_v1 (t := 32) (u := (.tup [(.int .i64 r_9.1), (.bool r_9.2)])) (.int .i64 r_9.1) rfl rfl rfl ?_
      refine g_v1 (t := 32) (u := (.tup [(.int .i64 r_9.1), (.bool r_9.2)])) (.bool r_9.2) rfl rfl rfl ?_
      refine g_v1 (t := 36) (u := (.int .i64 r_9.1)) (.int .i64 r_9.1) rfl rfl rfl ?_
      refine g_v1 (t := 37) (u := (.bool r_9.2)) (.bool r_9.2) rfl rfl rfl ?_
      refine g_end ?_
      refine e_end ?_
      refine renew [(1, (Enc.enc (aProgram_2 : List Int))), (2, (.ref (.bx 2) 0 [] (.agg [(.int .i64 aG_1.1), (Enc.enc (aG_1.2 : List (Int × Int)))]))), (4, (.bool false)), (6, (.int .i64 r_6.1)), (7, (.bool r_6.2)), (8, (.ref (.bx 8) 0 [] (.agg [(.int .i64 r_7.1), (Enc.enc (r_7.2 : List (Int × Int)))]))), (9, (Enc.enc (r_8 : List Int))), (10, (.int .i64 r_9.1)), (11, (.bool r_9.2))] ⟨h1, h2, h4, h6, h7, h8, h9, rfl, rfl⟩ ?_
      rintro s ⟨h1, h2, h4, h6, h7, h8, h9, h10, h11⟩
      refine .nsq ?_
      refine .seq ?_
      refine .seq ?_
      refine run_reg ?_
      refine e_end ?_
      refine g_v1 (t := 10) (u := (.int .i64 r_9.1)) (.int .i64 r_9.1) h10 rfl rfl ?_
      refine g_v1 (t := 6) (u := (.int .i64 r_6.1)) (.int .i64 r_6.1) h6 rfl rfl ?_
      refine g_v2 (t1 := 38) (t2 := 39) (u1 := (.int .i64 r_9.1)) (u2 := (.int .i64 r_6.1)) (.bool (r_9.1 != r_6.1)) rfl rfl rfl rfl ?_
      refine g_v1 (t := 40) (u := (.bool (r_9.1 != r_6.1))) (.bool (r_9.1 != r_6.1)) rfl rfl rfl ?_
      refine split_on (c := (r_9.1 != r_6.1)) h (fun hg4 h => ?_) (fun hg4 h => ?_)
      · refine g_no (Eq.trans (b := .bool (r_9.1 != r_6.1)) rfl (congrArg V.bool hg4)) ?_
        refine g_no (Eq.trans (b := .bool (r_9.1 != r_6.1)) rfl (congrArg V.bool hg4)) ?_
        refine g_no (Eq.trans (b := .bool (r_9.1 != r_6.1)) rfl (congrArg V.bool hg4)) ?_
        refine g_v2 (t1 := 41) (t2 := 44) (u1 := (.bool true)) (u2 := (.tup [])) (.bool true) (Eq.trans (b := .bool (r_9.1 != r_6.1)) rfl (congrArg V.bool hg4)) rfl rfl rfl ?_
        refine g_end ?_
        refine e_end ?_
        refine renew [(1, (Enc.enc (aProgram_2 : List Int))), (2, (.ref (.bx 2) 0 [] (.agg [(.int .i64 aG_1.1), (Enc.enc (aG_1.2 : List (Int × Int)))]))), (4, (.bool false)), (8, (.ref (.bx 8) 0 [] (.agg [(.int .i64 r_7.1), (Enc.enc (r_7.2 : List (Int × Int)))]))), (9, (Enc.enc (r_8 : List Int))), (45, (.bool true))] ⟨h1, h2, h4, h8, h9, rfl⟩ ?_
        rintro s ⟨h1, h2, h4, h8, h9, h45⟩
        exact t_f4_j1 H aProgram_2 aG_1 r_7 r_8 true _ ⟨h1, h2, h4, h8, h9, h45⟩ h
      · refine g_yes (Eq.trans (b := .bool (r_9.1 != r_6.1)) rfl (congrArg V.bool hg4)) (g_v1 (t := 11) (u := (.bool r_9.2)) (.bool r_9.2) h11 rfl rfl ?_)
        refine g_yes (Eq.trans (b := .bool (r_9.1 != r_6.1)) rfl (congrArg V.bool hg4)) (g_v1 (t := 7) (u := (.bool r_6.2)) (.bool r_6.2) h7 rfl rfl ?_)
        refine g_yes (Eq.trans (b := .bool (r_9.1 != r_6.1)) rfl (congrArg V.bool hg4)) (g_v2 (t1 := 42) (t2 := 43) (u1 := (.bool r_9.2)) (u2 := (.bool r_6.2)) (.bool (r_9.2 != r_6.2)) rfl rfl rfl rfl ?_)
        refine g_v2 (t1 := 41) (t2 := 44) (u1 := (.bool false)) (u2 := (.bool (r_9.2 != r_6.2))) (.bool (r_9.2 != r_6.2)) (Eq.trans (b := .bool (r_9.1 != r_6.1)) rfl (congrArg V.bool hg4)) rfl rfl rfl ?_
        refine g_end ?_
        refine e_end ?_
        refine renew [(1, (Enc.enc (aProgram_2 : List Int))), (2, (.ref (.bx 2) 0 [] (.agg [(.int .i64 aG_1.1), (Enc.enc (aG_1.2 : List (Int × Int)))]))), (4, (.bool false)), (8, (.ref (.bx 8) 0 [] (.agg [(.int .i64 r_7.1), (Enc.enc (r_7.2 : List (Int × Int)))]))), (9, (Enc.enc (r_8 : List Int))), (45, (.bool (r_9.2 != r_6.2)))] ⟨h1, h2, h4, h8, h9, rfl⟩ ?_
        rintro s ⟨h1, h2, h4, h8, h9, h45⟩
        exact t_f4_j1 H aProgram_2 aG_1 r_7 r_8 (r_9.2 != r_6.2) _ ⟨h1, h2, h4, h8, h9, h45⟩ h
end
def e4 (F : Nat) : Ent := ⟨4, da (fun (x : ((Int × (List (Int × Int))) × (List Int) × Unit)) => w_FnExactSearchersUsed F x.1 x.2.1) (fun (r : Bool) => (Enc.enc (r : Bool))), 0, false, selF []⟩
theorem p4 {F : Nat} {x0 : (Int × (List (Int × Int)))} {x1 : (List Int)} {r : Bool} (h : w_FnExactSearchersUsed F x0 x1 = some r) : (e4 F).den [Enc.enc x0, Enc.enc x1] = some (Enc.enc (r : Bool)) := da_put (f := fun (x : ((Int × (List (Int × Int))) × (List Int) × Unit)) => w_FnExactSearchersUsed F x.1 x.2.1) (t := fun (r : Bool) => (Enc.enc (r : Bool))) (x0, x1, ()) h
theorem o4 {D : Den} {σ : Sig} {F : Nat} (hF : Fits2 Try.prog D σ) (H : H4 D σ F) : (e4 F).Ok Try.prog := by
  refine ⟨fun args r h => ?_, ⟨Try.f4, Try.func4, rfl, rfl⟩⟩
  obtain ⟨⟨x0, x1, _⟩, y, rfl, hy, rfl⟩ := da_open h
  exact contract_run hF (by kernel_rfl) Try.func4 rfl c4 (show 2 ≤ Try.f4.ntmps by decide) (t4 H x0 x1 _ ⟨rfl, rfl⟩ hy)
end Go.Zq
