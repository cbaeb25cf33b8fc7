/- Functions of the program as typed functions, and that the machine runs as they say (part 4). No further condition. -/
import Derived.Test.YtodihaaheneikaaK2
import Derived.Test.YtodihaaheneikaaProg
import Derived.Test.YtodihaaheneikaaChecked
import Derived.KernelRfl
import Derived.Test.YtodihaaheneikaaG3
set_option linter.unusedVariables false
set_option linter.unusedSimpArgs false
/- Functions of the program, as typed functions, and that the machine runs as they say. -/
namespace Go.Zq
open Go.Proofs
/- loop.example/g01109/laws.eqGraph -/
def A16_2 : AC := (AC.cond (O.t 9) (AC.seq (AC.reg [] [(I.mk (some 4) none false (X.v (A.mov (O.k (V.bool false)))))] []) AC.ret) AC.skip)
def A16_4 : AC := (AC.cond (O.t 15) (AC.seq (AC.reg [] [(I.mk (some 4) none false (X.v (A.mov (O.k (V.bool false)))))] []) AC.ret) AC.skip)
def A16_5 : AC := (AC.seq (AC.reg [] [(I.mk (some 4) none false (X.v (A.mov (O.k (V.bool true)))))] []) AC.ret)
def A16_3 : AC := (AC.seq (AC.seq (AC.reg [] [(I.mk (some 10) none false (X.v (A.fld (O.t 2) 1 1))), (I.mk (some 11) none false (X.v (A.load Sh.p (O.t 10)))), (I.mk (some 12) none false (X.v (A.fld (O.t 3) 1 1))), (I.mk (some 13) none false (X.v (A.load Sh.p (O.t 12)))), (I.mk (some 14) none false (X.call (O.k (V.fn 48 [] [])) [(O.t 11), (O.t 13)])), (I.mk (some 15) none false (X.v (A.un UnOp.not (O.t 14))))] []) A16_4) A16_5)
def A16_1 : AC := (AC.seq (AC.seq (AC.reg [] [(I.mk (some 5) none false (X.v (A.fld (O.t 2) 0 0))), (I.mk (some 6) none false (X.v (A.load Sh.s (O.t 5)))), (I.mk (some 7) none false (X.v (A.fld (O.t 3) 0 0))), (I.mk (some 8) none false (X.v (A.load Sh.s (O.t 7)))), (I.mk (some 9) none false (X.v (A.bin BinOp.neq (O.t 6) (O.t 8))))] []) A16_2) A16_3)
def A16 : AC := (AC.seq (AC.reg [.clr [2, 3]] [(I.mk (some 2) none false (X.box (O.t 0))), (I.mk (some 3) none false (X.box (O.t 1))), (I.mk (some 4) none false (X.v (A.mov (O.k (V.bool false)))))] []) A16_1)
def an16 : List An := [{ id := 0, pre := [.clr [2, 3]], ep := [], lin := [], sp := [] }]
theorem c16 : cC Try.prog Try.f16.ntmps an16 (Try.f16.body.getD .skip) = some A16 := by kernel_rfl
structure H16 (D : Den) (σ : Sig) (F : Nat) : Prop where
  c48 : ∀ (x0 : (List (Int × Int))) (x1 : (List (Int × Int))) r, w_eqIntA2S F x0 x1 = some r → D 48 [Enc.enc x0, Enc.enc x1] = some (Enc.enc (r : Bool))
  g48 : σ 48 = some (0, false)
abbrev R16 (r : Bool) : (Nat → V) → Prop := RR Try.prog [.tmp 4] 0 false (Enc.enc (r : Bool))
section
variable {D : Den} {σ : Sig} {F : Nat} {r : Bool}
def w_eqGraph (F : Nat) (a_1 : (Int × (List (Int × Int)))) (b_2 : (Int × (List (Int × Int)))) : Option Bool :=
  bif (a_1.1 != b_2.1) then
    some false
  else
    (w_eqIntA2S F a_1.2 b_2.2).bind fun r_3 =>
    bif (!r_3) then
      some false
    else
      some true
theorem t16 (H : H16 D σ F) (a_1 : (Int × (List (Int × Int)))) (b_2 : (Int × (List (Int × Int)))) (s : Nat → V) (hs : Facts [(0, (.agg [(.int .i64 a_1.1), (Enc.enc (a_1.2 : List (Int × Int)))])), (1, (.agg [(.int .i64 b_2.1), (Enc.enc (b_2.2 : List (Int × Int)))]))] s) (h : w_eqGraph F a_1 b_2 = some r) : Run D σ (R16 r) (.run A16 []) s := by
  unfold w_eqGraph at h
  obtain ⟨h0, h1⟩ := hs
  refine .seq ?_
  refine run_reg ?_
  refine e_clr ?_
  refine e_end ?_
  refine g_box (.agg [(.int .i64 a_1.1), (Enc.enc (a_1.2 : List (Int × Int)))]) (rd_of (keep_clear (s := s) (pk := [2, 3]) h0 rfl (map_agg (maps_cons rfl (maps_cons (Enc.map_enc _ (a_1.2 : List (Int × Int))) maps_nil)))) rfl) (gone_clear (s := s) (pk := [2, 3]) (t := 2) rfl) rfl ?_
  refine g_box (.agg [(.int .i64 b_2.1), (Enc.enc (b_2.2 : List (Int × Int)))]) (rd_of (keep_clear (s := s) (pk := [2, 3]) h1 rfl (map_agg (maps_cons rfl (maps_cons (Enc.map_enc _ (b_2.2 : List (Int × Int))) maps_nil)))) rfl) (gone_clear (s := s) (pk := [2, 3]) (t := 3) rfl) rfl ?_
  refine g_v0 (.bool false) rfl rfl ?_
  refine g_end ?_
  refine e_end ?_
  refine renew [(2, (.ref (.bx 2) 0 [] (.agg [(.int .i64 a_1.1), (Enc.enc (a_1.2 : List (Int × Int)))]))), (3, (.ref (.bx 3) 0 [] (.agg [(.int .i64 b_2.1), (Enc.enc (b_2.2 : List (Int × Int)))]))), (4, (.bool false))] ⟨rfl, rfl, rfl⟩ ?_
  rintro s ⟨h2, h3, h4⟩
  refine .nsq ?_
  refine .seq ?_
  refine .seq ?_
  refine run_reg ?_
  refine e_end ?_
  refine g_v1 (t := 2) (u := (.ref (.bx 2) 0 [] (.agg [(.int .i64 a_1.1), (Enc.enc (a_1.2 : List (Int × Int)))]))) (.ref (.bx 2) 0 [0] (.int .i64 a_1.1)) h2 rfl rfl ?_
  refine g_v1 (t := 5) (u := (.ref (.bx 2) 0 [0] (.int .i64 a_1.1))) (.int .i64 a_1.1) rfl rfl rfl ?_
  refine g_v1 (t := 3) (u := (.ref (.bx 3) 0 [] (.agg [(.int .i64 b_2.1), (Enc.enc (b_2.2 : List (Int × Int)))]))) (.ref (.bx 3) 0 [0] (.int .i64 b_2.1)) h3 rfl rfl ?_
  refine g_v1 (t := 7) (u := (.ref (.bx 3) 0 [0] (.int .i64 b_2.1))) (.int .i64 b_2.1) rfl rfl rfl ?_
  refine g_v2 (t1 := 6) (t2 := 8) (u1 := (.int .i64 a_1.1)) (u2 := (.int .i64 b_2.1)) (.bool (a_1.1 != b_2.1)) rfl rfl rfl rfl ?_
  refine g_end ?_
  refine e_end ?_
  refine renew [(2, (.ref (.bx 2) 0 [] (.agg [(.int .i64 a_1.1), (Enc.enc (a_1.2 : List (Int × Int)))]))), (3, (.ref (.bx 3) 0 [] (.agg [(.int .i64 b_2.1), (Enc.enc (b_2.2 : List (Int × Int)))]))), (4, (.bool false)), (9, (.bool (a_1.1 != b_2.1)))] ⟨h2, h3, h4, rfl⟩ ?_
  rintro s ⟨h2, h3, h4, h9⟩
  refine .nsq ?_
  refine run_cond (t := (a_1.1 != b_2.1)) h9 h (fun h => ?_) (fun h => ?_)
  · refine .seq ?_
    refine run_reg ?_
    refine e_end ?_
    refine g_v0 (.bool false) rfl rfl ?_
    refine g_end ?_
    refine e_end ?_
    refine renew [(2, (.ref (.bx 2) 0 [] (.agg [(.int .i64 a_1.1), (Enc.enc (a_1.2 : List (Int × Int)))]))), (3, (.ref (.bx 3) 0 [] (.agg [(.int .i64 b_2.1), (Enc.enc (b_2.2 : List (Int × Int)))]))), (4, (.bool false))] ⟨h2, h3, rfl⟩ ?_
    rintro s ⟨h2, h3, h4⟩
    refine .nsq ?_
    refine .ret ?_
    have hr := Option.some.inj h
    subst hr
    exact rrA (res_tmp h4) rfl
  · refine .skip ?_
    refine .nsq ?_
    refine .seq ?_
    refine .seq ?_
    refine run_reg ?_
    refine e_end ?_
    refine g_v1 (t := 2) (u := (.ref (.bx 2) 0 [] (.agg [(.int .i64 a_1.1), (Enc.enc (a_1.2 : List (Int × Int)))]))) (.ref (.bx 2) 0 [1] (Enc.enc (a_1.2 : List (Int × Int)))) h2 rfl rfl ?_
    refine g_v1 (t := 10) (u := (.ref (.bx 2) 0 [1] (Enc.enc (a_1.2 : List (Int × Int))))) (Enc.enc (a_1.2 : List (Int × Int))) rfl rfl rfl ?_
    refine g_v1 (t := 3) (u := (.ref (.bx 3) 0 [] (.agg [(.int .i64 b_2.1), (Enc.enc (b_2.2 : List (Int × Int)))]))) (.ref (.bx 3) 0 [1] (Enc.enc (b_2.2 : List (Int × Int)))) h3 rfl rfl ?_
    refine g_v1 (t := 12) (u := (.ref (.bx 3) 0 [1] (Enc.enc (b_2.2 : List (Int × Int))))) (Enc.enc (b_2.2 : List (Int × Int))) rfl rfl rfl ?_
    obtain ⟨r_3, E_r_3, h⟩ := bind_some h
    refine g_call (m := 0) (al := false) (r := (Enc.enc (r_3 : Bool))) [Enc.enc (a_1.2 : (List (Int × Int))), Enc.enc (b_2.2 : (List (Int × Int)))] (ta_cons (v := (Enc.enc (a_1.2 : List (Int × Int)))) rfl rfl (Enc.erase_enc (a_1.2 : (List (Int × Int)))) (ta_cons (v := (Enc.enc (b_2.2 : List (Int × Int)))) rfl rfl (Enc.erase_enc (b_2.2 : (List (Int × Int)))) ta_nil)) (H.c48 _ _ _ E_r_3) H.g48 rfl rfl rfl rfl ?_
    refine g_v1 (t := 14) (u := (.bool r_3)) (.bool (!r_3)) rfl rfl rfl ?_
    refine g_end ?_
    refine e_end ?_
    refine renew [(4, (.bool false)), (15, (.bool (!r_3)))] ⟨h4, rfl⟩ ?_
    rintro s ⟨h4, h15⟩
    refine .nsq ?_
    refine run_cond (t := (!r_3)) h15 h (fun h => ?_) (fun h => ?_)
    · refine .seq ?_
      refine run_reg ?_
      refine e_end ?_
      refine g_v0 (.bool false) rfl rfl ?_
      refine g_end ?_
      refine e_end ?_
      refine renew [(4, (.bool false))] rfl ?_
      rintro s h4
      refine .nsq ?_
      refine .ret ?_
      have hr := Option.some.inj h
      subst hr
      exact rrA (res_tmp h4) rfl
    · refine .skip ?_
      refine .nsq ?_
      refine .seq ?_
      refine run_reg ?_
      refine e_end ?_
      refine g_v0 (.bool true) rfl rfl ?_
      refine g_end ?_
      refine e_end ?_
      refine renew [(4, (.bool true))] rfl ?_
      rintro s h4
      refine .nsq ?_
      refine .ret ?_
      have hr := Option.some.inj h
      subst hr
      exact rrA (res_tmp h4) rfl
end
def e16 (F : Nat) : Ent := ⟨16, da (fun (x : ((Int × (List (Int × Int))) × (Int × (List (Int × Int))) × Unit)) => w_eqGraph F x.1 x.2.1) (fun (r : Bool) => (Enc.enc (r : Bool))), 0, false, selF []⟩
theorem p16 {F : Nat} {x0 : (Int × (List (Int × Int)))} {x1 : (Int × (List (Int × Int)))} {r : Bool} (h : w_eqGraph F x0 x1 = some r) : (e16 F).den [Enc.enc x0, Enc.enc x1] = some (Enc.enc (r : Bool)) := da_put (f := fun (x : ((Int × (List (Int × Int))) × (Int × (List (Int × Int))) × Unit)) => w_eqGraph F x.1 x.2.1) (t := fun (r : Bool) => (Enc.enc (r : Bool))) (x0, x1, ()) h
theorem o16 {D : Den} {σ : Sig} {F : Nat} (hF : Fits2 Try.prog D σ) (H : H16 D σ F) : (e16 F).Ok Try.prog := by
  refine ⟨fun args r h => ?_, ⟨Try.f16, Try.func16, rfl, rfl⟩⟩
  obtain ⟨⟨x0, x1, _⟩, y, rfl, hy, rfl⟩ := da_open h
  exact contract_run hF (by kernel_rfl) Try.func16 rfl c16 (show 2 ≤ Try.f16.ntmps by decide) (t16 H x0 x1 _ ⟨rfl, rfl⟩ hy)
/- loop.example/g01109/laws.eqIntS -/
def A17_2 : AC := (AC.cond (O.t 14) AC.skip (AC.exit 0))
def A17_4 : AC := (AC.cond (O.t 25) (AC.seq (AC.reg [] [(I.mk (some 4) none false (X.v (A.mov (O.k (V.bool false)))))] []) AC.ret) AC.skip)
def A17_5 : AC := (AC.reg [] [(I.mk (some 15) none false (X.v (A.mov (O.t 5)))), (I.mk (some 16) none false (X.v (A.bin BinOp.add (O.t 15) (O.k (V.int IntKind.i64 (Int.ofNat 1)))))), (I.mk (some 5) none false (X.v (A.mov (O.t 16))))] [])
def A17_3 : AC := (AC.seq (AC.block 1 (AC.seq (AC.reg [] [(I.mk (some 17) none false (X.v (A.mov (O.t 0)))), (I.mk (some 18) none false (X.v (A.mov (O.t 5)))), (I.mk (some 19) none false (X.v (A.idx (O.t 17) (O.t 18) 1))), (I.mk (some 20) none false (X.v (A.load Sh.s (O.t 19)))), (I.mk (some 21) none false (X.v (A.mov (O.t 1)))), (I.mk (some 22) none false (X.v (A.mov (O.t 5)))), (I.mk (some 23) none false (X.v (A.idx (O.t 21) (O.t 22) 1))), (I.mk (some 24) none false (X.v (A.load Sh.s (O.t 23)))), (I.mk (some 25) none false (X.v (A.bin BinOp.neq (O.t 20) (O.t 24))))] []) A17_4)) A17_5)
def A17_1 : AC := (AC.seq (AC.seq (AC.reg [] [(I.mk (some 11) none false (X.v (A.mov (O.t 5)))), (I.mk (some 12) none false (X.v (A.mov (O.t 0)))), (I.mk (some 13) none false (X.v (A.len (O.t 12)))), (I.mk (some 14) none false (X.v (A.bin BinOp.lss (O.t 11) (O.t 13))))] []) A17_2) A17_3)
def A17_6 : AC := (AC.seq (AC.reg [] [(I.mk (some 4) none false (X.v (A.mov (O.k (V.bool true)))))] []) AC.ret)
def A17_8 : AC := (AC.cond (O.t 10) (AC.seq (AC.reg [] [(I.mk (some 4) none false (X.v (A.mov (O.k (V.bool false)))))] []) AC.ret) AC.skip)
def A17_10 : AC := (AC.block 0 (AC.loop A17_1))
def A17_9 : AC := (AC.seq (AC.seq (AC.reg [] [(I.mk (some 5) none false (X.v (A.mov (O.k (V.int IntKind.i64 (Int.ofNat 0))))))] []) A17_10) A17_6)
def A17_7 : AC := (AC.seq (AC.seq (AC.reg [] [(I.mk (some 6) none false (X.v (A.mov (O.t 0)))), (I.mk (some 7) none false (X.v (A.len (O.t 6)))), (I.mk (some 8) none false (X.v (A.mov (O.t 1)))), (I.mk (some 9) none false (X.v (A.len (O.t 8)))), (I.mk (some 10) none false (X.v (A.bin BinOp.neq (O.t 7) (O.t 9))))] []) A17_8) A17_9)
def A17 : AC := (AC.seq (AC.reg [] [(I.mk (some 4) none false (X.v (A.mov (O.k (V.bool false)))))] []) A17_7)
def an17 : List An := []
theorem c17 : cC Try.prog Try.f17.ntmps an17 (Try.f17.body.getD .skip) = some A17 := by kernel_rfl
structure H17 (D : Den) (σ : Sig) (F : Nat) : Prop where
  mk ::
abbrev R17 (r : Bool) : (Nat → V) → Prop := RR Try.prog [.tmp 4] 0 false (Enc.enc (r : Bool))
section
variable {D : Den} {σ : Sig} {F : Nat} {r : Bool}
def w_eqIntS_l1 (F : Nat) (a_1 : (List Int)) (b_2 : (List Int))  : Nat → Int → Option Bool
  | 0, _ => none
  | k + 1, i_5 =>
    bif decide (i_5 < (a_1.length : Int)) then
      (idx a_1 i_5).bind fun e_8 =>
      (idx b_2 i_5).bind fun e_9 =>
      bif (e_8 != e_9) then
        some false
      else
        (w_eqIntS_l1 F a_1 b_2 k) (w64 (i_5 + 1))
    else
      some true
theorem t_f17_l1 (H : H17 D σ F) (a_1 : (List Int)) (b_2 : (List Int))  : ∀ (k : Nat) (i_5 : Int) (s : Nat → V), Facts [(0, (Enc.enc (a_1 : List Int))), (1, (Enc.enc (b_2 : List Int))), (4, (.bool false)), (5, (.int .i64 i_5))] s → w_eqIntS_l1 F a_1 b_2 k i_5 = some r → Run D σ (R17 r) (.run A17_1 [.lp A17_1, .bk 0, .sq A17_6]) s := by
  intro k
  induction k with
  | zero => intro i_5 s _ h; exact nomatch (h : (none : Option _) = some r)
  | succ k ih =>
    intro i_5 s hs h
    rw [w_eqIntS_l1] at h
    obtain ⟨h0, h1, h4, h5⟩ := hs
    refine .seq ?_
    refine .seq ?_
    refine run_reg ?_
    refine e_end ?_
    refine g_v1 (t := 5) (u := (.int .i64 i_5)) (.int .i64 i_5) h5 rfl rfl ?_
    refine g_v1 (t := 0) (u := (Enc.enc (a_1 : List Int))) (Enc.enc (a_1 : List Int)) h0 rfl rfl ?_
    refine g_v (.int .i64 (a_1.length : Int)) (ev_len (xs := a_1) rfl) ?_
    refine g_v2 (t1 := 11) (t2 := 13) (u1 := (.int .i64 i_5)) (u2 := (.int .i64 (a_1.length : Int))) (.bool (decide (i_5 < (a_1.length : Int)))) rfl rfl rfl rfl ?_
    refine g_end ?_
    refine e_end ?_
    refine renew [(0, (Enc.enc (a_1 : List Int))), (1, (Enc.enc (b_2 : List Int))), (4, (.bool false)), (5, (.int .i64 i_5)), (14, (.bool (decide (i_5 < (a_1.length : Int)))))] ⟨h0, h1, h4, h5, rfl⟩ ?_
    rintro s ⟨h0, h1, h4, h5, h14⟩
    refine .nsq ?_
    refine run_cond (t := decide (i_5 < (a_1.length : Int))) h14 h (fun h => ?_) (fun h => ?_)
    · refine .skip ?_
      refine .nsq ?_
      refine .seq ?_
      refine .block ?_
      refine .seq ?_
      refine run_reg ?_
      refine e_end ?_
      refine g_v1 (t := 0) (u := (Enc.enc (a_1 : List Int))) (Enc.enc (a_1 : List Int)) h0 rfl rfl ?_
      refine g_v1 (t := 5) (u := (.int .i64 i_5)) (.int .i64 i_5) h5 rfl rfl ?_
      obtain ⟨e_8, E_e_8, h⟩ := bind_some h
      refine g_v (.ref .sh 0 [] (.int .i64 e_8)) (ev_idx (t := .sh) (lo := 0) (xs := a_1) rfl rfl E_e_8 rfl rfl) ?_
      refine g_v1 (t := 19) (u := (.ref .sh 0 [] (.int .i64 e_8))) (.int .i64 e_8) rfl rfl rfl ?_
      refine g_v1 (t := 1) (u := (Enc.enc (b_2 : List Int))) (Enc.enc (b_2 : List Int)) h1 rfl rfl ?_
      refine g_v1 (t := 5) (u := (.int .i64 i_5)) (.int .i64 i_5) h5 rfl rfl ?_
      obtain ⟨e_9, E_e_9, h⟩ := bind_some h
      refine g_v (.ref .sh 0 [] (.int .i64 e_9)) (ev_idx (t := .sh) (lo := 0) (xs := b_2) rfl rfl E_e_9 rfl rfl) ?_
      refine g_v1 (t := 23) (u := (.ref .sh 0 [] (.int .i64 e_9))) (.int .i64 e_9) rfl rfl rfl ?_
      refine g_v2 (t1 := 20) (t2 := 24) (u1 := (.int .i64 e_8)) (u2 := (.int .i64 e_9)) (.bool (e_8 != e_9)) rfl rfl rfl rfl ?_
      refine g_end ?_
      refine e_end ?_
      refine renew [(0, (Enc.enc (a_1 : List Int))), (1, (Enc.enc (b_2 : List Int))), (4, (.bool false)), (5, (.int .i64 i_5)), (25, (.bool (e_8 != e_9)))] ⟨h0, h1, h4, h5, rfl⟩ ?_
      rintro s ⟨h0, h1, h4, h5, h25⟩
      refine .nsq ?_
      refine run_cond (t := (e_8 != e_9)) h25 h (fun h => ?_) (fun h => ?_)
      · refine .seq ?_
        refine run_reg ?_
        refine e_end ?_
        refine g_v0 (.bool false) rfl rfl ?_
        refine g_end ?_
        refine e_end ?_
        refine renew [(0, (Enc.enc (a_1 : List Int))), (1, (Enc.enc (b_2 : List Int))), (4, (.bool false)), (5, (.int .i64 i_5))] ⟨h0, h1, rfl, h5⟩ ?_
        rintro s ⟨h0, h1, h4, h5⟩
        refine .nsq ?_
        refine .ret ?_
        have hr := Option.some.inj h
        subst hr
        exact rrA (res_tmp h4) rfl
      · refine .skip ?_
        refine .nbk ?_
        refine .nsq ?_
        refine run_reg ?_
        refine e_end ?_
        refine g_v1 (t := 5) (u := (.int .i64 i_5)) (.int .i64 i_5) h5 rfl rfl ?_
        refine g_v1 (t := 15) (u := (.int .i64 i_5)) (.int .i64 (w64 (i_5 + 1))) rfl rfl rfl ?_
        refine g_v1 (t := 16) (u := (.int .i64 (w64 (i_5 + 1)))) (.int .i64 (w64 (i_5 + 1))) rfl rfl rfl ?_
        refine g_end ?_
        refine e_end ?_
        refine renew [(0, (Enc.enc (a_1 : List Int))), (1, (Enc.enc (b_2 : List Int))), (4, (.bool false)), (5, (.int .i64 (w64 (i_5 + 1))))] ⟨h0, h1, h4, rfl⟩ ?_
        rintro s ⟨h0, h1, h4, h5⟩
        refine .nlp ?_
        exact ih (w64 (i_5 + 1)) _ ⟨h0, h1, h4, h5⟩ h
    · refine .exit ?_
      refine .esq ?_
      refine .elp ?_
      refine .ebk ?_
      refine .nsq ?_
      refine .seq ?_
      refine run_reg ?_
      refine e_end ?_
      refine g_v0 (.bool true) rfl rfl ?_
      refine g_end ?_
      refine e_end ?_
      refine renew [(4, (.bool true))] rfl ?_
      rintro s h4
      refine .nsq ?_
      refine .ret ?_
      have hr := Option.some.inj h
      subst hr
      exact rrA (res_tmp h4) rfl
def w_eqIntS (F : Nat) (a_1 : (List Int)) (b_2 : (List Int)) : Option Bool :=
  bif ((a_1.length : Int) != (b_2.length : Int)) then
    some false
  else
    w_eqIntS_l1 F a_1 b_2 F 0
theorem t17 (H : H17 D σ F) (a_1 : (List Int)) (b_2 : (List Int)) (s : Nat → V) (hs : Facts [(0, (Enc.enc (a_1 : List Int))), (1, (Enc.enc (b_2 : List Int)))] s) (h : w_eqIntS F a_1 b_2 = some r) : Run D σ (R17 r) (.run A17 []) s := by
  unfold w_eqIntS at h
  obtain ⟨h0, h1⟩ := hs
  refine .seq ?_
  refine run_reg ?_
  refine e_end ?_
  refine g_v0 (.bool false) rfl rfl ?_
  refine g_end ?_
  refine e_end ?_
  refine renew [(0, (Enc.enc (a_1 : List Int))), (1, (Enc.enc (b_2 : List Int))), (4, (.bool false))] ⟨h0, h1, rfl⟩ ?_
  rintro s ⟨h0, h1, h4⟩
  refine .nsq ?_
  refine .seq ?_
  refine .seq ?_
  refine run_reg ?_
  refine e_end ?_
  refine g_v1 (t := 0) (u := (Enc.enc (a_1 : List Int))) (Enc.enc (a_1 : List Int)) h0 rfl rfl ?_
  refine g_v (.int .i64 (a_1.length : Int)) (ev_len (xs := a_1) rfl) ?_
  refine g_v1 (t := 1) (u := (Enc.enc (b_2 : List Int))) (Enc.enc (b_2 : List Int)) h1 rfl rfl ?_
  refine g_v (.int .i64 (b_2.length : Int)) (ev_len (xs := b_2) rfl) ?_
  refine g_v2 (t1 := 7) (t2 := 9) (u1 := (.int .i64 (a_1.length : Int))) (u2 := (.int .i64 (b_2.length : Int))) (.bool ((a_1.length : Int) != (b_2.length : Int))) rfl rfl rfl rfl ?_
  refine g_end ?_
  refine e_end ?_
  refine renew [(0, (Enc.enc (a_1 : List Int))), (1, (Enc.enc (b_2 : List Int))), (4, (.bool false)), (10, (.bool ((a_1.length : Int) != (b_2.length : Int))))] ⟨h0, h1, h4, rfl⟩ ?_
  rintro s ⟨h0, h1, h4, h10⟩
  refine .nsq ?_
  refine run_cond (t := ((a_1.length : Int) != (b_2.length : Int))) h10 h (fun h => ?_) (fun h => ?_)
  · refine .seq ?_
    refine run_reg ?_
    refine e_end ?_
    refine g_v0 (.bool false) rfl rfl ?_
    refine g_end ?_
    refine e_end ?_
    refine renew [(0, (Enc.enc (a_1 : List Int))), (1, (Enc.enc (b_2 : List Int))), (4, (.bool false))] ⟨h0, h1, rfl⟩ ?_
    rintro s ⟨h0, h1, h4⟩
    refine .nsq ?_
    refine .ret ?_
    have hr := Option.some.inj h
    subst hr
    exact rrA (res_tmp h4) rfl
  · refine .skip ?_
    refine .nsq ?_
    refine .seq ?_
    refine .seq ?_
    refine run_reg ?_
    refine e_end ?_
    refine g_v0 (.int .i64 0) rfl rfl ?_
    refine g_end ?_
    refine e_end ?_
    refine renew [(0, (Enc.enc (a_1 : List Int))), (1, (Enc.enc (b_2 : List Int))), (4, (.bool false)), (5, (.int .i64 0))] ⟨h0, h1, h4, rfl⟩ ?_
    rintro s ⟨h0, h1, h4, h5⟩
    refine .nsq ?_
    refine .block ?_
    refine .loop ?_
    exact t_f17_l1 H a_1 b_2 F 0 _ ⟨h0, h1, h4, h5⟩ h
end
def e17 (F : Nat) : Ent := ⟨17, da (fun (x : ((List Int) × (List Int) × Unit)) => w_eqIntS F x.1 x.2.1) (fun (r : Bool) => (Enc.enc (r : Bool))), 0, false, selF []⟩
theorem p17 {F : Nat} {x0 : (List Int)} {x1 : (List Int)} {r : Bool} (h : w_eqIntS F x0 x1 = some r) : (e17 F).den [Enc.enc x0, Enc.enc x1] = some (Enc.enc (r : Bool)) := da_put (f := fun (x : ((List Int) × (List Int) × Unit)) => w_eqIntS F x.1 x.2.1) (t := fun (r : Bool) => (Enc.enc (r : Bool))) (x0, x1, ()) h
theorem o17 {D : Den} {σ : Sig} {F : Nat} (hF : Fits2 Try.prog D σ) (H : H17 D σ F) : (e17 F).Ok Try.prog := by
  refine ⟨fun args r h => ?_, ⟨Try.f17, Try.func17, rfl, rfl⟩⟩
  obtain ⟨⟨x0, x1, _⟩, y, rfl, hy, rfl⟩ := da_open h
  exact contract_run hF (by kernel_rfl) Try.func17 rfl c17 (show 2 ≤ Try.f17.ntmps by decide) (t17 H x0 x1 _ ⟨rfl, rfl⟩ hy)
/- loop.example/g01109/laws.eqDepthEntry -/
def A64_2 : AC := (AC.cond (O.t 10) (AC.seq (AC.reg [] [(I.mk (some 4) none false (X.v (A.mov (O.k (V.bool false)))))] []) AC.ret) AC.skip)
def A64_4 : AC := (AC.cond (O.t 15) (AC.seq (AC.reg [] [(I.mk (some 4) none false (X.v (A.mov (O.k (V.bool false)))))] []) AC.ret) AC.skip)
def A64_6 : AC := (AC.cond (O.t 21) (AC.seq (AC.reg [] [(I.mk (some 4) none false (X.v (A.mov (O.k (V.bool false)))))] []) AC.ret) AC.skip)
def A64_7 : AC := (AC.seq (AC.reg [] [(I.mk (some 4) none false (X.v (A.mov (O.k (V.bool true)))))] []) AC.ret)
def A64_5 : AC := (AC.seq (AC.seq (AC.reg [] [(I.mk (some 16) none false (X.v (A.fld (O.t 2) 2 2))), (I.mk (some 17) none false (X.v (A.load Sh.p (O.t 16)))), (I.mk (some 18) none false (X.v (A.fld (O.t 3) 2 2))), (I.mk (some 19) none false (X.v (A.load Sh.p (O.t 18)))), (I.mk (some 20) none false (X.call (O.k (V.fn 17 [] [])) [(O.t 17), (O.t 19)])), (I.mk (some 21) none false (X.v (A.un UnOp.not (O.t 20))))] []) A64_6) A64_7)
def A64_3 : AC := (AC.seq (AC.seq (AC.reg [] [(I.mk (some 11) none false (X.v (A.fld (O.t 2) 1 1))), (I.mk (some 12) none false (X.v (A.load Sh.s (O.t 11)))), (I.mk (some 13) none false (X.v (A.fld (O.t 3) 1 1))), (I.mk (some 14) none false (X.v (A.load Sh.s (O.t 13)))), (I.mk (some 15) none false (X.v (A.bin BinOp.neq (O.t 12) (O.t 14))))] []) A64_4) A64_5)
def A64_1 : AC := (AC.seq (AC.seq (AC.reg [] [(I.mk (some 5) none false (X.v (A.fld (O.t 2) 0 0))), (I.mk (some 6) none false (X.v (A.load Sh.p (O.t 5)))), (I.mk (some 7) none false (X.v (A.fld (O.t 3) 0 0))), (I.mk (some 8) none false (X.v (A.load Sh.p (O.t 7)))), (I.mk (some 9) none false (X.call (O.k (V.fn 17 [] [])) [(O.t 6), (O.t 8)])), (I.mk (some 10) none false (X.v (A.un UnOp.not (O.t 9))))] []) A64_2) A64_3)
def A64 : AC := (AC.seq (AC.reg [.clr [2, 3]] [(I.mk (some 2) none false (X.box (O.t 0))), (I.mk (some 3) none false (X.box (O.t 1))), (I.mk (some 4) none false (X.v (A.mov (O.k (V.bool false)))))] []) A64_1)
def an64 : List An := [{ id := 0, pre := [.clr [2, 3]], ep := [], lin := [], sp := [] }]
theorem c64 : cC Try.prog Try.f64.ntmps an64 (Try.f64.body.getD .skip) = some A64 := by kernel_rfl
structure H64 (D : Den) (σ : Sig) (F : Nat) : Prop where
  c17 : ∀ (x0 : (List Int)) (x1 : (List Int)) r, w_eqIntS F x0 x1 = some r → D 17 [Enc.enc x0, Enc.enc x1] = some (Enc.enc (r : Bool))
  g17 : σ 17 = some (0, false)
abbrev R64 (r : Bool) : (Nat → V) → Prop := RR Try.prog [.tmp 4] 0 false (Enc.enc (r : Bool))
section
variable {D : Den} {σ : Sig} {F : Nat} {r : Bool}
def w_eqDepthEntry (F : Nat) (a_1 : (S3 (List Int) Int (List Int))) (b_2 : (S3 (List Int) Int (List Int))) : Option Bool :=
  (w_eqIntS F a_1.a b_2.a).bind fun r_3 =>
  bif (!r_3) then
    some false
  else
    bif (a_1.b != b_2.b) then
      some false
    else
      (w_eqIntS F a_1.c b_2.c).bind fun r_4 =>
      bif (!r_4) then
        some false
      else
        some true
theorem t64 (H : H64 D σ F) (a_1 : (S3 (List Int) Int (List Int))) (b_2 : (S3 (List Int) Int (List Int))) (s : Nat → V) (hs : Facts [(0, (.agg [(Enc.enc (a_1.a : List Int)), (.int .i64 a_1.b), (Enc.enc (a_1.c : List Int))])), (1, (.agg [(Enc.enc (b_2.a : List Int)), (.int .i64 b_2.b), (Enc.enc (b_2.c : List Int))]))] s) (h : w_eqDepthEntry F a_1 b_2 = some r) : Run D σ (R64 r) (.run A64 []) s := by
  unfold w_eqDepthEntry at h
  obtain ⟨h0, h1⟩ := hs
  refine .seq ?_
  refine run_reg ?_
  refine e_clr ?_
  refine e_end ?_
  refine g_box (.agg [(Enc.enc (a_1.a : List Int)), (.int .i64 a_1.b), (Enc.enc (a_1.c : List Int))]) (rd_of (keep_clear (s := s) (pk := [2, 3]) h0 rfl (map_agg (maps_cons (Enc.map_enc _ (a_1.a : List Int)) (maps_cons rfl (maps_cons (Enc.map_enc _ (a_1.c : List Int)) maps_nil))))) rfl) (gone_clear (s := s) (pk := [2, 3]) (t := 2) rfl) rfl ?_
  refine g_box (.agg [(Enc.enc (b_2.a : List Int)), (.int .i64 b_2.b), (Enc.enc (b_2.c : List Int))]) (rd_of (keep_clear (s := s) (pk := [2, 3]) h1 rfl (map_agg (maps_cons (Enc.map_enc _ (b_2.a : List Int)) (maps_cons rfl (maps_cons (Enc.map_enc _ (b_2.c : List Int)) maps_nil))))) rfl) (gone_clear (s := s) (pk := [2, 3]) (t := 3) rfl) rfl ?_
  refine g_v0 (.bool false) rfl rfl ?_
  refine g_end ?_
  refine e_end ?_
  refine renew [(2, (.ref (.bx 2) 0 [] (.agg [(Enc.enc (a_1.a : List Int)), (.int .i64 a_1.b), (Enc.enc (a_1.c : List Int))]))), (3, (.ref (.bx 3) 0 [] (.agg [(Enc.enc (b_2.a : List Int)), (.int .i64 b_2.b), (Enc.enc (b_2.c : List Int))]))), (4, (.bool false))] ⟨rfl, rfl, rfl⟩ ?_
  rintro s ⟨h2, h3, h4⟩
  refine .nsq ?_
  refine .seq ?_
  refine .seq ?_
  refine run_reg ?_
  refine e_end ?_
  refine g_v1 (t := 2) (u := (.ref (.bx 2) 0 [] (.agg [(Enc.enc (a_1.a : List Int)), (.int .i64 a_1.b), (Enc.enc (a_1.c : List Int))]))) (.ref (.bx 2) 0 [0] (Enc.enc (a_1.a : List Int))) h2 rfl rfl ?_
  refine g_v1 (t := 5) (u := (.ref (.bx 2) 0 [0] (Enc.enc (a_1.a : List Int)))) (Enc.enc (a_1.a : List Int)) rfl rfl rfl ?_
  refine g_v1 (t := 3) (u := (.ref (.bx 3) 0 [] (.agg [(Enc.enc (b_2.a : List Int)), (.int .i64 b_2.b), (Enc.enc (b_2.c : List Int))]))) (.ref (.bx 3) 0 [0] (Enc.enc (b_2.a : List Int))) h3 rfl rfl ?_
  refine g_v1 (t := 7) (u := (.ref (.bx 3) 0 [0] (Enc.enc (b_2.a : List Int)))) (Enc.enc (b_2.a : List Int)) rfl rfl rfl ?_
  obtain ⟨r_3, E_r_3, h⟩ := bind_some h
  refine g_call (m := 0) (al := false) (r := (Enc.enc (r_3 : Bool))) [Enc.enc (a_1.a : (List Int)), Enc.enc (b_2.a : (List Int))] (ta_cons (v := (Enc.enc (a_1.a : List Int))) rfl rfl (Enc.erase_enc (a_1.a : (List Int))) (ta_cons (v := (Enc.enc (b_2.a : List Int))) rfl rfl (Enc.erase_enc (b_2.a : (List Int))) ta_nil)) (H.c17 _ _ _ E_r_3) H.g17 rfl rfl rfl rfl ?_
  refine g_v1 (t := 9) (u := (.bool r_3)) (.bool (!r_3)) rfl rfl rfl ?_
  refine g_end ?_
  refine e_end ?_
  refine renew [(2, (.ref (.bx 2) 0 [] (.agg [(Enc.enc (a_1.a : List Int)), (.int .i64 a_1.b), (Enc.enc (a_1.c : List Int))]))), (3, (.ref (.bx 3) 0 [] (.agg [(Enc.enc (b_2.a : List Int)), (.int .i64 b_2.b), (Enc.enc (b_2.c : List Int))]))), (4, (.bool false)), (10, (.bool (!r_3)))] ⟨h2, h3, h4, rfl⟩ ?_
  rintro s ⟨h2, h3, h4, h10⟩
  refine .nsq ?_
  refine run_cond (t := (!r_3)) h10 h (fun h => ?_) (fun h => ?_)
  · refine .seq ?_
    refine run_reg ?_
    refine e_end ?_
    refine g_v0 (.bool false) rfl rfl ?_
    refine g_end ?_
    refine e_end ?_
    refine renew [(2, (.ref (.bx 2) 0 [] (.agg [(Enc.enc (a_1.a : List Int)), (.int .i64 a_1.b), (Enc.enc (a_1.c : List Int))]))), (3, (.ref (.bx 3) 0 [] (.agg [(Enc.enc (b_2.a : List Int)), (.int .i64 b_2.b), (Enc.enc (b_2.c : List Int))]))), (4, (.bool false))] ⟨h2, h3, rfl⟩ ?_
    rintro s ⟨h2, h3, h4⟩
    refine .nsq ?_
    refine .ret ?_
    have hr := Option.some.inj h
    subst hr
    exact rrA (res_tmp h4) rfl
  · refine .skip ?_
    refine .nsq ?_
    refine .seq ?_
    refine .seq ?_
    refine run_reg ?_
    refine e_end ?_
    refine g_v1 (t := 2) (u := (.ref (.bx 2) 0 [] (.agg [(Enc.enc (a_1.a : List Int)), (.int .i64 a_1.b), (Enc.enc (a_1.c : List Int))]))) (.ref (.bx 2) 0 [1] (.int .i64 a_1.b)) h2 rfl rfl ?_
    refine g_v1 (t := 11) (u := (.ref (.bx 2) 0 [1] (.int .i64 a_1.b))) (.int .i64 a_1.b) rfl rfl rfl ?_
    refine g_v1 (t := 3) (u := (.ref (.bx 3) 0 [] (.agg [(Enc.enc (b_2.a : List Int)), (.int .i64 b_2.b), (Enc.enc (b_2.c : List Int))]))) (.ref (.bx 3) 0 [1] (.int .i64 b_2.b)) h3 rfl rfl ?_
    refine g_v1 (t := 13) (u := (.ref (.bx 3) 0 [1] (.int .i64 b_2.b))) (.int .i64 b_2.b) rfl rfl rfl ?_
    refine g_v2 (t1 := 12) (t2 := 14) (u1 := (.int .i64 a_1.b)) (u2 := (.int .i64 b_2.b)) (.bool (a_1.b != b_2.b)) rfl rfl rfl rfl ?_
    refine g_end ?_
    refine e_end ?_
    refine renew [(2, (.ref (.bx 2) 0 [] (.agg [(Enc.enc (a_1.a : List Int)), (.int .i64 a_1.b), (Enc.enc (a_1.c : List Int))]))), (3, (.ref (.bx 3) 0 [] (.agg [(Enc.enc (b_2.a : List Int)), (.int .i64 b_2.b), (Enc.enc (b_2.c : List Int))]))), (4, (.bool false)), (15, (.bool (a_1.b != b_2.b)))] ⟨h2, h3, h4, rfl⟩ ?_
    rintro s ⟨h2, h3, h4, h15⟩
    refine .nsq ?_
    refine run_cond (t := (a_1.b != b_2.b)) h15 h (fun h => ?_) (fun h => ?_)
    · refine .seq ?_
      refine run_reg ?_
      refine e_end ?_
      refine g_v0 (.bool false) rfl rfl ?_
      refine g_end ?_
      refine e_end ?_
      refine renew [(2, (.ref (.bx 2) 0 [] (.agg [(Enc.enc (a_1.a : List Int)), (.int .i64 a_1.b), (Enc.enc (a_1.c : List Int))]))), (3, (.ref (.bx 3) 0 [] (.agg [(Enc.enc (b_2.a : List Int)), (.int .i64 b_2.b), (Enc.enc (b_2.c : List Int))]))), (4, (.bool false))] ⟨h2, h3, rfl⟩ ?_
      rintro s ⟨h2, h3, h4⟩
      refine .nsq ?_
      refine .ret ?_
      have hr := Option.some.inj h
      subst hr
      exact rrA (res_tmp h4) rfl
    · refine .skip ?_
      refine .nsq ?_
      refine .seq ?_
      refine .seq ?_
      refine run_reg ?_
      refine e_end ?_
      refine g_v1 (t := 2) (u := (.ref (.bx 2) 0 [] (.agg [(Enc.enc (a_1.a : List Int)), (.int .i64 a_1.b), (Enc.enc (a_1.c : List Int))]))) (.ref (.bx 2) 0 [2] (Enc.enc (a_1.c : List Int))) h2 rfl rfl ?_
      refine g_v1 (t := 16) (u := (.ref (.bx 2) 0 [2] (Enc.enc (a_1.c : List Int)))) (Enc.enc (a_1.c : List Int)) rfl rfl rfl ?_
      refine g_v1 (t := 3) (u := (.ref (.bx 3) 0 [] (.agg [(Enc.enc (b_2.a : List Int)), (.int .i64 b_2.b), (Enc.enc (b_2.c : List Int))]))) (.ref (.bx 3) 0 [2] (Enc.enc (b_2.c : List Int))) h3 rfl rfl ?_
      refine g_v1 (t := 18) (u := (.ref (.bx 3) 0 [2] (Enc.enc (b_2.c : List Int)))) (Enc.enc (b_2.c : List Int)) rfl rfl rfl ?_
      obtain ⟨r_4, E_r_4, h⟩ := bind_some h
      refine g_call (m := 0) (al := false) (r := (Enc.enc (r_4 : Bool))) [Enc.enc (a_1.c : (List Int)), Enc.enc (b_2.c : (List Int))] (ta_cons (v := (Enc.enc (a_1.c : List Int))) rfl rfl (Enc.erase_enc (a_1.c : (List Int))) (ta_cons (v := (Enc.enc (b_2.c : List Int))) rfl rfl (Enc.erase_enc (b_2.c : (List Int))) ta_nil)) (H.c17 _ _ _ E_r_4) H.g17 rfl rfl rfl rfl ?_
      refine g_v1 (t := 20) (u := (.bool r_4)) (.bool (!r_4)) rfl rfl rfl ?_
      refine g_end ?_
      refine e_end ?_
      refine renew [(4, (.bool false)), (21, (.bool (!r_4)))] ⟨h4, rfl⟩ ?_
      rintro s ⟨h4, h21⟩
      refine .nsq ?_
      refine run_cond (t := (!r_4)) h21 h (fun h => ?_) (fun h => ?_)
      · refine .seq ?_
        refine run_reg ?_
        refine e_end ?_
        refine g_v0 (.bool false) rfl rfl ?_
        refine g_end ?_
        refine e_end ?_
        refine renew [(4, (.bool false))] rfl ?_
        rintro s h4
        refine .nsq ?_
        refine .ret ?_
        have hr := Option.some.inj h
        subst hr
        exact rrA (res_tmp h4) rfl
      · refine .skip ?_
        refine .nsq ?_
        refine .seq ?_
        refine run_reg ?_
        refine e_end ?_
        refine g_v0 (.bool true) rfl rfl ?_
        refine g_end ?_
        refine e_end ?_
        refine renew [(4, (.bool true))] rfl ?_
        rintro s h4
        refine .nsq ?_
        refine .ret ?_
        have hr := Option.some.inj h
        subst hr
        exact rrA (res_tmp h4) rfl
end
def e64 (F : Nat) : Ent := ⟨64, da (fun (x : ((S3 (List Int) Int (List Int)) × (S3 (List Int) Int (List Int)) × Unit)) => w_eqDepthEntry F x.1 x.2.1) (fun (r : Bool) => (Enc.enc (r : Bool))), 0, false, selF []⟩
theorem p64 {F : Nat} {x0 : (S3 (List Int) Int (List Int))} {x1 : (S3 (List Int) Int (List Int))} {r : Bool} (h : w_eqDepthEntry F x0 x1 = some r) : (e64 F).den [Enc.enc x0, Enc.enc x1] = some (Enc.enc (r : Bool)) := da_put (f := fun (x : ((S3 (List Int) Int (List Int)) × (S3 (List Int) Int (List Int)) × Unit)) => w_eqDepthEntry F x.1 x.2.1) (t := fun (r : Bool) => (Enc.enc (r : Bool))) (x0, x1, ()) h
theorem o64 {D : Den} {σ : Sig} {F : Nat} (hF : Fits2 Try.prog D σ) (H : H64 D σ F) : (e64 F).Ok Try.prog := by
  refine ⟨fun args r h => ?_, ⟨Try.f64, Try.func64, rfl, rfl⟩⟩
  obtain ⟨⟨x0, x1, _⟩, y, rfl, hy, rfl⟩ := da_open h
  exact contract_run hF (by kernel_rfl) Try.func64 rfl c64 (show 2 ≤ Try.f64.ntmps by decide) (t64 H x0 x1 _ ⟨rfl, rfl⟩ hy)
/- loop.example/g01109/laws.eqDepthEntryS -/
def A38_2 : AC := (AC.cond (O.t 14) AC.skip (AC.exit 0))
def A38_4 : AC := (AC.cond (O.t 26) (AC.seq (AC.reg [] [(I.mk (some 4) none false (X.v (A.mov (O.k (V.bool false)))))] []) AC.ret) AC.skip)
def A38_5 : AC := (AC.reg [] [(I.mk (some 15) none false (X.v (A.mov (O.t 5)))), (I.mk (some 16) none false (X.v (A.bin BinOp.add (O.t 15) (O.k (V.int IntKind.i64 (Int.ofNat 1)))))), (I.mk (some 5) none false (X.v (A.mov (O.t 16))))] [])
def A38_3 : AC := (AC.seq (AC.block 1 (AC.seq (AC.reg [] [(I.mk (some 17) none false (X.v (A.mov (O.t 0)))), (I.mk (some 18) none false (X.v (A.mov (O.t 5)))), (I.mk (some 19) none false (X.v (A.idx (O.t 17) (O.t 18) 3))), (I.mk (some 20) none false (X.v (A.load (Sh.ag [Sh.p, Sh.s, Sh.p]) (O.t 19)))), (I.mk (some 21) none false (X.v (A.mov (O.t 1)))), (I.mk (some 22) none false (X.v (A.mov (O.t 5)))), (I.mk (some 23) none false (X.v (A.idx (O.t 21) (O.t 22) 3))), (I.mk (some 24) none false (X.v (A.load (Sh.ag [Sh.p, Sh.s, Sh.p]) (O.t 23)))), (I.mk (some 25) none false (X.call (O.k (V.fn 64 [] [])) [(O.t 20), (O.t 24)])), (I.mk (some 26) none false (X.v (A.un UnOp.not (O.t 25))))] []) A38_4)) A38_5)
def A38_1 : AC := (AC.seq (AC.seq (AC.reg [] [(I.mk (some 11) none false (X.v (A.mov (O.t 5)))), (I.mk (some 12) none false (X.v (A.mov (O.t 0)))), (I.mk (some 13) none false (X.v (A.len (O.t 12)))), (I.mk (some 14) none false (X.v (A.bin BinOp.lss (O.t 11) (O.t 13))))] []) A38_2) A38_3)
def A38_6 : AC := (AC.seq (AC.reg [] [(I.mk (some 4) none false (X.v (A.mov (O.k (V.bool true)))))] []) AC.ret)
def A38_8 : AC := (AC.cond (O.t 10) (AC.seq (AC.reg [] [(I.mk (some 4) none false (X.v (A.mov (O.k (V.bool false)))))] []) AC.ret) AC.skip)
def A38_10 : AC := (AC.block 0 (AC.loop A38_1))
def A38_9 : AC := (AC.seq (AC.seq (AC.reg [] [(I.mk (some 5) none false (X.v (A.mov (O.k (V.int IntKind.i64 (Int.ofNat 0))))))] []) A38_10) A38_6)
def A38_7 : AC := (AC.seq (AC.seq (AC.reg [] [(I.mk (some 6) none false (X.v (A.mov (O.t 0)))), (I.mk (some 7) none false (X.v (A.len (O.t 6)))), (I.mk (some 8) none false (X.v (A.mov (O.t 1)))), (I.mk (some 9) none false (X.v (A.len (O.t 8)))), (I.mk (some 10) none false (X.v (A.bin BinOp.neq (O.t 7) (O.t 9))))] []) A38_8) A38_9)
def A38 : AC := (AC.seq (AC.reg [] [(I.mk (some 4) none false (X.v (A.mov (O.k (V.bool false)))))] []) A38_7)
def an38 : List An := []
theorem c38 : cC Try.prog Try.f38.ntmps an38 (Try.f38.body.getD .skip) = some A38 := by kernel_rfl
structure H38 (D : Den) (σ : Sig) (F : Nat) : Prop where
  c64 : ∀ (x0 : (S3 (List Int) Int (List Int))) (x1 : (S3 (List Int) Int (List Int))) r, w_eqDepthEntry F x0 x1 = some r → D 64 [Enc.enc x0, Enc.enc x1] = some (Enc.enc (r : Bool))
  g64 : σ 64 = some (0, false)
abbrev R38 (r : Bool) : (Nat → V) → Prop := RR Try.prog [.tmp 4] 0 false (Enc.enc (r : Bool))
section
variable {D : Den} {σ : Sig} {F : Nat} {r : Bool}
def w_eqDepthEntryS_l1 (F : Nat) (a_1 : (List (S3 (List Int) Int (List Int)))) (b_2 : (List (S3 (List Int) Int (List Int))))  : Nat → Int → Option Bool
  | 0, _ => none
  | k + 1, i_6 =>
    bif decide (i_6 < (a_1.length : Int)) then
      (idx a_1 i_6).bind fun e_10 =>
      (idx b_2 i_6).bind fun e_11 =>
      (w_eqDepthEntry F e_10 e_11).bind fun r_12 =>
      bif (!r_12) then
        some false
      else
        (w_eqDepthEntryS_l1 F a_1 b_2 k) (w64 (i_6 + 1))
    else
      some true
theorem t_f38_l1 (H : H38 D σ F) (a_1 : (List (S3 (List Int) Int (List Int)))) (b_2 : (List (S3 (List Int) Int (List Int))))  : ∀ (k : Nat) (i_6 : Int) (s : Nat → V), Facts [(0, (Enc.enc (a_1 : List (S3 (List Int) Int (List Int))))), (1, (Enc.enc (b_2 : List (S3 (List Int) Int (List Int))))), (4, (.bool false)), (5, (.int .i64 i_6))] s → w_eqDepthEntryS_l1 F a_1 b_2 k i_6 = some r → Run D σ (R38 r) (.run A38_1 [.lp A38_1, .bk 0, .sq A38_6]) s := by
  intro k
  induction k with
  | zero => intro i_6 s _ h; exact nomatch (h : (none : Option _) = some r)
  | succ k ih =>
    intro i_6 s hs h
    rw [w_eqDepthEntryS_l1] at h
    obtain ⟨h0, h1, h4, h5⟩ := hs
    refine .seq ?_
    refine .seq ?_
    refine run_reg ?_
    refine e_end ?_
    refine g_v1 (t := 5) (u := (.int .i64 i_6)) (.int .i64 i_6) h5 rfl rfl ?_
    refine g_v1 (t := 0) (u := (Enc.enc (a_1 : List (S3 (List Int) Int (List Int))))) (Enc.enc (a_1 : List (S3 (List Int) Int (List Int)))) h0 rfl rfl ?_
    refine g_v (.int .i64 (a_1.length : Int)) (ev_len (xs := a_1) rfl) ?_
    refine g_v2 (t1 := 11) (t2 := 13) (u1 := (.int .i64 i_6)) (u2 := (.int .i64 (a_1.length : Int))) (.bool (decide (i_6 < (a_1.length : Int)))) rfl rfl rfl rfl ?_
    refine g_end ?_
    refine e_end ?_
    refine renew [(0, (Enc.enc (a_1 : List (S3 (List Int) Int (List Int))))), (1, (Enc.enc (b_2 : List (S3 (List Int) Int (List Int))))), (4, (.bool false)), (5, (.int .i64 i_6)), (14, (.bool (decide (i_6 < (a_1.length : Int)))))] ⟨h0, h1, h4, h5, rfl⟩ ?_
    rintro s ⟨h0, h1, h4, h5, h14⟩
    refine .nsq ?_
    refine run_cond (t := decide (i_6 < (a_1.length : Int))) h14 h (fun h => ?_) (fun h => ?_)
    · refine .skip ?_
      refine .nsq ?_
      refine .seq ?_
      refine .block ?_
      refine .seq ?_
      refine run_reg ?_
      refine e_end ?_
      refine g_v1 (t := 0) (u := (Enc.enc (a_1 : List (S3 (List Int) Int (List Int))))) (Enc.enc (a_1 : List (S3 (List Int) Int (List Int)))) h0 rfl rfl ?_
      refine g_v1 (t := 5) (u := (.int .i64 i_6)) (.int .i64 i_6) h5 rfl rfl ?_
      obtain ⟨e_10, E_e_10, h⟩ := bind_some h
      refine g_v (.ref .sh 0 [] (.agg [(Enc.enc (e_10.a : List Int)), (.int .i64 e_10.b), (Enc.enc (e_10.c : List Int))])) (ev_idx (t := .sh) (lo := 0) (xs := a_1) rfl rfl E_e_10 rfl rfl) ?_
      refine g_v1 (t := 19) (u := (.ref .sh 0 [] (.agg [(Enc.enc (e_10.a : List Int)), (.int .i64 e_10.b), (Enc.enc (e_10.c : List Int))]))) (.agg [(Enc.enc (e_10.a : List Int)), (.int .i64 e_10.b), (Enc.enc (e_10.c : List Int))]) rfl rfl rfl ?_
      refine g_v1 (t := 1) (u := (Enc.enc (b_2 : List (S3 (List Int) Int (List Int))))) (Enc.enc (b_2 : List (S3 (List Int) Int (List Int)))) h1 rfl rfl ?_
      refine g_v1 (t := 5) (u := (.int .i64 i_6)) (.int .i64 i_6) h5 rfl rfl ?_
      obtain ⟨e_11, E_e_11, h⟩ := bind_some h
      refine g_v (.ref .sh 0 [] (.agg [(Enc.enc (e_11.a : List Int)), (.int .i64 e_11.b), (Enc.enc (e_11.c : List Int))])) (ev_idx (t := .sh) (lo := 0) (xs := b_2) rfl rfl E_e_11 rfl rfl) ?_
      refine g_v1 (t := 23) (u := (.ref .sh 0 [] (.agg [(Enc.enc (e_11.a : List Int)), (.int .i64 e_11.b), (Enc.enc (e_11.c : List Int))]))) (.agg [(Enc.enc (e_11.a : List Int)), (.int .i64 e_11.b), (Enc.enc (e_11.c : List Int))]) rfl rfl rfl ?_
      obtain ⟨r_12, E_r_12, h⟩ := bind_some h
      refine g_call (m := 0) (al := false) (r := (Enc.enc (r_12 : Bool))) [Enc.enc (e_10 : (S3 (List Int) Int (List Int))), Enc.enc (e_11 : (S3 (List Int) Int (List Int)))] (ta_cons (v := (.agg [(Enc.enc (e_10.a : List Int)), (.int .i64 e_10.b), (Enc.enc (e_10.c : List Int))])) rfl rfl (Enc.erase_enc (e_10 : (S3 (List Int) Int (List Int)))) (ta_cons (v := (.agg [(Enc.enc (e_11.a : List Int)), (.int .i64 e_11.b), (Enc.enc (e_11.c : List Int))])) rfl rfl (Enc.erase_enc (e_11 : (S3 (List Int) Int (List Int)))) ta_nil)) (H.c64 _ _ _ E_r_12) H.g64 rfl rfl rfl rfl ?_
      refine g_v1 (t := 25) (u := (.bool r_12)) (.bool (!r_12)) rfl rfl rfl ?_
      refine g_end ?_
      refine e_end ?_
      refine renew [(0, (Enc.enc (a_1 : List (S3 (List Int) Int (List Int))))), (1, (Enc.enc (b_2 : List (S3 (List Int) Int (List Int))))), (4, (.bool false)), (5, (.int .i64 i_6)), (26, (.bool (!r_12)))] ⟨h0, h1, h4, h5, rfl⟩ ?_
      rintro s ⟨h0, h1, h4, h5, h26⟩
      refine .nsq ?_
      refine run_cond (t := (!r_12)) h26 h (fun h => ?_) (fun h => ?_)
      · refine .seq ?_
        refine run_reg ?_
        refine e_end ?_
        refine g_v0 (.bool false) rfl rfl ?_
        refine g_end ?_
        refine e_end ?_
        refine renew [(0, (Enc.enc (a_1 : List (S3 (List Int) Int (List Int))))), (1, (Enc.enc (b_2 : List (S3 (List Int) Int (List Int))))), (4, (.bool false)), (5, (.int .i64 i_6))] ⟨h0, h1, rfl, h5⟩ ?_
        rintro s ⟨h0, h1, h4, h5⟩
        refine .nsq ?_
        refine .ret ?_
        have hr := Option.some.inj h
        subst hr
        exact rrA (res_tmp h4) rfl
      · refine .skip ?_
        refine .nbk ?_
        refine .nsq ?_
        refine run_reg ?_
        refine e_end ?_
        refine g_v1 (t := 5) (u := (.int .i64 i_6)) (.int .i64 i_6) h5 rfl rfl ?_
        refine g_v1 (t := 15) (u := (.int .i64 i_6)) (.int .i64 (w64 (i_6 + 1))) rfl rfl rfl ?_
        refine g_v1 (t := 16) (u := (.int .i64 (w64 (i_6 + 1)))) (.int .i64 (w64 (i_6 + 1))) rfl rfl rfl ?_
        refine g_end ?_
        refine e_end ?_
        refine renew [(0, (Enc.enc (a_1 : List (S3 (List Int) Int (List Int))))), (1, (Enc.enc (b_2 : List (S3 (List Int) Int (List Int))))), (4, (.bool false)), (5, (.int .i64 (w64 (i_6 + 1))))] ⟨h0, h1, h4, rfl⟩ ?_
        rintro s ⟨h0, h1, h4, h5⟩
        refine .nlp ?_
        exact ih (w64 (i_6 + 1)) _ ⟨h0, h1, h4, h5⟩ h
    · refine .exit ?_
      refine .esq ?_
      refine .elp ?_
      refine .ebk ?_
      refine .nsq ?_
      refine .seq ?_
      refine run_reg ?_
      refine e_end ?_
      refine g_v0 (.bool true) rfl rfl ?_
      refine g_end ?_
      refine e_end ?_
      refine renew [(4, (.bool true))] rfl ?_
      rintro s h4
      refine .nsq ?_
      refine .ret ?_
      have hr := Option.some.inj h
      subst hr
      exact rrA (res_tmp h4) rfl
def w_eqDepthEntryS (F : Nat) (a_1 : (List (S3 (List Int) Int (List Int)))) (b_2 : (List (S3 (List Int) Int (List Int)))) : Option Bool :=
  bif ((a_1.length : Int) != (b_2.length : Int)) then
    some false
  else
    w_eqDepthEntryS_l1 F a_1 b_2 F 0
theorem t38 (H : H38 D σ F) (a_1 : (List (S3 (List Int) Int (List Int)))) (b_2 : (List (S3 (List Int) Int (List Int)))) (s : Nat → V) (hs : Facts [(0, (Enc.enc (a_1 : List (S3 (List Int) Int (List Int))))), (1, (Enc.enc (b_2 : List (S3 (List Int) Int (List Int)))))] s) (h : w_eqDepthEntryS F a_1 b_2 = some r) : Run D σ (R38 r) (.run A38 []) s := by
  unfold w_eqDepthEntryS at h
  obtain ⟨h0, h1⟩ := hs
  refine .seq ?_
  refine run_reg ?_
  refine e_end ?_
  refine g_v0 (.bool false) rfl rfl ?_
  refine g_end ?_
  refine e_end ?_
  refine renew [(0, (Enc.enc (a_1 : List (S3 (List Int) Int (List Int))))), (1, (Enc.enc (b_2 : List (S3 (List Int) Int (List Int))))), (4, (.bool false))] ⟨h0, h1, rfl⟩ ?_
  rintro s ⟨h0, h1, h4⟩
  refine .nsq ?_
  refine .seq ?_
  refine .seq ?_
  refine run_reg ?_
  refine e_end ?_
  refine g_v1 (t := 0) (u := (Enc.enc (a_1 : List (S3 (List Int) Int (List Int))))) (Enc.enc (a_1 : List (S3 (List Int) Int (List Int)))) h0 rfl rfl ?_
  refine g_v (.int .i64 (a_1.length : Int)) (ev_len (xs := a_1) rfl) ?_
  refine g_v1 (t := 1) (u := (Enc.enc (b_2 : List (S3 (List Int) Int (List Int))))) (Enc.enc (b_2 : List (S3 (List Int) Int (List Int)))) h1 rfl rfl ?_
  refine g_v (.int .i64 (b_2.length : Int)) (ev_len (xs := b_2) rfl) ?_
  refine g_v2 (t1 := 7) (t2 := 9) (u1 := (.int .i64 (a_1.length : Int))) (u2 := (.int .i64 (b_2.length : Int))) (.bool ((a_1.length : Int) != (b_2.length : Int))) rfl rfl rfl rfl ?_
  refine g_end ?_
  refine e_end ?_
  refine renew [(0, (Enc.enc (a_1 : List (S3 (List Int) Int (List Int))))), (1, (Enc.enc (b_2 : List (S3 (List Int) Int (List Int))))), (4, (.bool false)), (10, (.bool ((a_1.length : Int) != (b_2.length : Int))))] ⟨h0, h1, h4, rfl⟩ ?_
  rintro s ⟨h0, h1, h4, h10⟩
  refine .nsq ?_
  refine run_cond (t := ((a_1.length : Int) != (b_2.length : Int))) h10 h (fun h => ?_) (fun h => ?_)
  · refine .seq ?_
    refine run_reg ?_
    refine e_end ?_
    refine g_v0 (.bool false) rfl rfl ?_
    refine g_end ?_
    refine e_end ?_
    refine renew [(0, (Enc.enc (a_1 : List (S3 (List Int) Int (List Int))))), (1, (Enc.enc (b_2 : List (S3 (List Int) Int (List Int))))), (4, (.bool false))] ⟨h0, h1, rfl⟩ ?_
    rintro s ⟨h0, h1, h4⟩
    refine .nsq ?_
    refine .ret ?_
    have hr := Option.some.inj h
    subst hr
    exact rrA (res_tmp h4) rfl
  · refine .skip ?_
    refine .nsq ?_
    refine .seq ?_
    refine .seq ?_
    refine run_reg ?_
    refine e_end ?_
    refine g_v0 (.int .i64 0) rfl rfl ?_
    refine g_end ?_
    refine e_end ?_
    refine renew [(0, (Enc.enc (a_1 : List (S3 (List Int) Int (List Int))))), (1, (Enc.enc (b_2 : List (S3 (List Int) Int (List Int))))), (4, (.bool false)), (5, (.int .i64 0))] ⟨h0, h1, h4, rfl⟩ ?_
    rintro s ⟨h0, h1, h4, h5⟩
    refine .nsq ?_
    refine .block ?_
    refine .loop ?_
    exact t_f38_l1 H a_1 b_2 F 0 _ ⟨h0, h1, h4, h5⟩ h
end
def e38 (F : Nat) : Ent := ⟨38, da (fun (x : ((List (S3 (List Int) Int (List Int))) × (List (S3 (List Int) Int (List Int))) × Unit)) => w_eqDepthEntryS F x.1 x.2.1) (fun (r : Bool) => (Enc.enc (r : Bool))), 0, false, selF []⟩
theorem p38 {F : Nat} {x0 : (List (S3 (List Int) Int (List Int)))} {x1 : (List (S3 (List Int) Int (List Int)))} {r : Bool} (h : w_eqDepthEntryS F x0 x1 = some r) : (e38 F).den [Enc.enc x0, Enc.enc x1] = some (Enc.enc (r : Bool)) := da_put (f := fun (x : ((List (S3 (List Int) Int (List Int))) × (List (S3 (List Int) Int (List Int))) × Unit)) => w_eqDepthEntryS F x.1 x.2.1) (t := fun (r : Bool) => (Enc.enc (r : Bool))) (x0, x1, ()) h
theorem o38 {D : Den} {σ : Sig} {F : Nat} (hF : Fits2 Try.prog D σ) (H : H38 D σ F) : (e38 F).Ok Try.prog := by
  refine ⟨fun args r h => ?_, ⟨Try.f38, Try.func38, rfl, rfl⟩⟩
  obtain ⟨⟨x0, x1, _⟩, y, rfl, hy, rfl⟩ := da_open h
  exact contract_run hF (by kernel_rfl) Try.func38 rfl c38 (show 2 ≤ Try.f38.ntmps by decide) (t38 H x0 x1 _ ⟨rfl, rfl⟩ hy)
/- loop.example/g01109/laws.FnExactIsDepthProof -/
def A9_1 : AC := (AC.cond (O.t 47) (AC.seq (AC.reg [] [(I.mk (some 4) none false (X.v (A.mov (O.k (V.bool false)))))] []) AC.ret) AC.skip)
def A9_3 : AC := (AC.cond (O.t 52) (AC.seq (AC.reg [] [(I.mk (some 4) none false (X.v (A.mov (O.k (V.bool false)))))] []) AC.ret) AC.skip)
def A9_5 : AC := (AC.cond (O.t 57) (AC.seq (AC.reg [] [(I.mk (some 4) none false (X.v (A.mov (O.k (V.bool false)))))] []) AC.ret) AC.skip)
def A9_6 : AC := (AC.seq (AC.reg [] [(I.mk (some 4) none false (X.v (A.mov (O.k (V.bool true)))))] []) AC.ret)
def A9_4 : AC := (AC.seq (AC.seq (AC.reg [] [(I.mk (some 53) none false (X.v (A.mov (O.t 9)))), (I.mk (some 54) none false (X.v (A.mov (O.t 1)))), (I.mk (some 55) none false (X.call (O.k (V.fn 36 [] [])) [(O.t 54)])), (I.mk (some 56) none false (X.call (O.k (V.fn 38 [] [])) [(O.t 53), (O.t 55)])), (I.mk (some 57) none false (X.v (A.un UnOp.not (O.t 56))))] []) A9_5) A9_6)
def A9_2 : AC := (AC.seq (AC.seq (AC.reg [] [(I.mk (some 48) none false (X.v (A.load (Sh.ag [Sh.s, Sh.p]) (O.t 8)))), (I.mk (some 49) none false (X.v (A.load (Sh.ag [Sh.s, Sh.p]) (O.t 2)))), (I.mk (some 50) none false (X.call (O.k (V.fn 13 [] [])) [(O.t 49)])), (I.mk (some 51) none false (X.call (O.k (V.fn 16 [] [])) [(O.t 48), (O.t 50)])), (I.mk (some 52) none false (X.v (A.un UnOp.not (O.t 51))))] []) A9_3) A9_4)
def A9_10 : AC := (AC.cond (O.t 16) (AC.seq (AC.reg [] [(I.mk (some 4) none false (X.v (A.mov (O.k (V.bool true)))))] []) AC.ret) AC.skip)
def A9_13 : AC := (AC.cond (O.t 21) (AC.seq (AC.reg [] [(I.mk (some 4) none false (X.v (A.mov (O.k (V.bool true)))))] []) AC.ret) AC.skip)
def A9_18 : AC := (AC.seq (AC.seq (AC.reg [] [(I.mk (some 40) none false (X.v (A.mov (O.t 10)))), (I.mk (some 41) none false (X.v (A.mov (O.t 6)))), (I.mk (some 42) none false (X.v (A.beq true (O.t 40) (O.t 41)))), (I.mk (some 43) none false (X.v (A.mov (O.t 42)))), (I.mk (some 44) (some (43, false)) false (X.v (A.mov (O.t 11)))), (I.mk (some 45) (some (43, false)) false (X.v (A.mov (O.t 7)))), (I.mk (some 46) (some (43, false)) false (X.v (A.beq true (O.t 44) (O.t 45)))), (I.mk (some 47) none false (X.v (A.pick (O.t 43) (O.k (V.bool true)) (O.t 46))))] []) A9_1) A9_2)
def A9_17 : AC := (AC.seq (AC.reg [] [(I.mk (some 35) none false (X.v (A.load (Sh.ag [Sh.s, Sh.p]) (O.t 8)))), (I.mk (some 36) none false (X.v (A.mov (O.t 9)))), (I.mk (some 37) none false (X.call (O.k (V.fn 37 [] [])) [(O.t 35), (O.t 36)])), (I.mk (some 34) none false (X.v (A.mov (O.t 37)))), (I.mk (some 38) none false (X.v (A.extS (O.t 34) 0))), (I.mk (some 39) none false (X.v (A.extS (O.t 34) 1))), (I.mk (some 10) none false (X.v (A.mov (O.t 38)))), (I.mk (some 11) none false (X.v (A.mov (O.t 39))))] []) A9_18)
def A9_16 : AC := (AC.seq (AC.reg [] [(I.mk (some 32) none false (X.v (A.mov (O.t 1)))), (I.mk (some 33) none false (X.call (O.k (V.fn 36 [] [])) [(O.t 32)])), (I.mk (some 9) none false (X.v (A.mov (O.t 33))))] []) A9_17)
def A9_15 : AC := (AC.seq (AC.reg [.clr [8]] [(I.mk (some 30) none false (X.v (A.load (Sh.ag [Sh.s, Sh.p]) (O.t 2)))), (I.mk (some 31) none false (X.call (O.k (V.fn 13 [] [])) [(O.t 30)])), (I.mk (some 8) none false (X.alloc (V.agg [(V.int IntKind.i64 (Int.ofNat 0)), (V.sl Tok.nl (Sh.ag [Sh.s, Sh.s]) 0 [])]))), (I.mk none none false (X.store (Sh.ag [Sh.s, Sh.p]) (O.t 8) (O.t 31)))] []) A9_16)
def A9_14 : AC := (AC.seq (AC.reg [] [(I.mk (some 23) none false (X.v (A.load (Sh.ag [Sh.s, Sh.p]) (O.t 2)))), (I.mk (some 24) none false (X.call (O.k (V.fn 13 [] [])) [(O.t 23)])), (I.mk (some 25) none false (X.v (A.mov (O.t 1)))), (I.mk (some 26) none false (X.call (O.k (V.fn 36 [] [])) [(O.t 25)])), (I.mk (some 27) none false (X.call (O.k (V.fn 35 [] [])) [(O.t 24), (O.t 26)])), (I.mk (some 22) none false (X.v (A.mov (O.t 27)))), (I.mk (some 28) none false (X.v (A.extS (O.t 22) 0))), (I.mk (some 29) none false (X.v (A.extS (O.t 22) 1))), (I.mk (some 6) none false (X.v (A.mov (O.t 28)))), (I.mk (some 7) none false (X.v (A.mov (O.t 29))))] []) A9_15)
def A9_12 : AC := (AC.seq (AC.seq (AC.reg [] [(I.mk (some 20) none false (X.v (A.mov (O.t 5)))), (I.mk (some 21) none false (X.v (A.bin BinOp.lss (O.t 20) (O.k (V.int IntKind.i64 (Int.ofNat 0))))))] []) A9_13) A9_14)
def A9_11 : AC := (AC.seq (AC.reg [] [(I.mk (some 17) none false (X.v (A.mov (O.t 1)))), (I.mk (some 18) none false (X.v (A.mov (O.t 5)))), (I.mk (some 19) none false (X.call (O.k (V.fn 34 [] [])) [(O.t 17), (O.t 18)])), (I.mk (some 5) none false (X.v (A.mov (O.t 19))))] []) A9_12)
def A9_9 : AC := (AC.seq (AC.seq (AC.reg [] [(I.mk (some 15) none false (X.v (A.mov (O.t 5)))), (I.mk (some 16) none false (X.v (A.bin BinOp.lss (O.t 15) (O.k (V.int IntKind.i64 (Int.ofNat 0))))))] []) A9_10) A9_11)
def A9_8 : AC := (AC.seq (AC.reg [] [(I.mk (some 12) none false (X.v (A.load (Sh.ag [Sh.s, Sh.p]) (O.t 2)))), (I.mk (some 13) none false (X.v (A.mov (O.t 5)))), (I.mk (some 14) none false (X.call (O.k (V.fn 11 [] [])) [(O.t 12), (O.t 13)])), (I.mk (some 5) none false (X.v (A.mov (O.t 14))))] []) A9_9)
def A9_7 : AC := (AC.seq (AC.reg [] [(I.mk (some 5) none false (X.v (A.mov (O.k (V.int IntKind.i64 (Int.ofNat 1048576))))))] []) A9_8)
def A9 : AC := (AC.seq (AC.reg [.clr [2]] [(I.mk (some 2) none false (X.box (O.t 0))), (I.mk (some 4) none false (X.v (A.mov (O.k (V.bool false)))))] []) A9_7)
def an9 : List An := [{ id := 0, pre := [.clr [2]], ep := [], lin := [], sp := [] }, { id := 9, pre := [.clr [8]], ep := [], lin := [], sp := [] }]
theorem c9 : cC Try.prog Try.f9.ntmps an9 (Try.f9.body.getD .skip) = some A9 := by kernel_rfl
structure H9 (D : Den) (σ : Sig) (F : Nat) : Prop where
  c11 : ∀ (x0 : (Int × (List (Int × Int)))) (x1 : Int) r, w_szGraph F x0 x1 = some r → D 11 [Enc.enc x0, Enc.enc x1] = some (Enc.enc (r : Int))
  g11 : σ 11 = some (0, false)
  c34 : ∀ (x0 : (List (S3 (List Int) Int (List Int)))) (x1 : Int) r, w_szDepthEntryS F x0 x1 = some r → D 34 [Enc.enc x0, Enc.enc x1] = some (Enc.enc (r : Int))
  g34 : σ 34 = some (0, false)
  c13 : ∀ (x0 : (Int × (List (Int × Int)))) r, w_toGraph F x0 = some r → D 13 [Enc.enc x0] = some (Enc.enc (r : (Int × (List (Int × Int)))))
  g13 : σ 13 = some (0, true)
  c36 : ∀ (x0 : (List (S3 (List Int) Int (List Int)))) r, w_toDepthEntryS F x0 = some r → D 36 [Enc.enc x0] = some (Enc.enc (r : (List (S3 (List Int) Int (List Int)))))
  g36 : σ 36 = some (0, true)
  c35 : ∀ (x0 : (Int × (List (Int × Int)))) (x1 : (List (S3 (List Int) Int (List Int)))) r, s_IsDepthProof F x0 x1 = some r → D 35 [Enc.enc x0, Enc.enc x1] = some (.tup [Enc.enc (r.1 : Bool), Enc.enc (r.2 : Bool)])
  g35 : σ 35 = some (0, false)
  c37 : ∀ (x0 : (Int × (List (Int × Int)))) (x1 : (List (S3 (List Int) Int (List Int)))) r, i_IsDepthProof F x0 x1 = some r → D 37 [Enc.enc x0, Enc.enc x1] = some (.tup [Enc.enc (r.1 : Bool), Enc.enc (r.2 : Bool)])
  g37 : σ 37 = some (0, false)
  c16 : ∀ (x0 : (Int × (List (Int × Int)))) (x1 : (Int × (List (Int × Int)))) r, w_eqGraph F x0 x1 = some r → D 16 [Enc.enc x0, Enc.enc x1] = some (Enc.enc (r : Bool))
  g16 : σ 16 = some (0, false)
  c38 : ∀ (x0 : (List (S3 (List Int) Int (List Int)))) (x1 : (List (S3 (List Int) Int (List Int)))) r, w_eqDepthEntryS F x0 x1 = some r → D 38 [Enc.enc x0, Enc.enc x1] = some (Enc.enc (r : Bool))
  g38 : σ 38 = some (0, false)
abbrev R9 (r : Bool) : (Nat → V) → Prop := RR Try.prog [.tmp 4] 0 false (Enc.enc (r : Bool))
section
variable {D : Den} {σ : Sig} {F : Nat} {r : Bool}
def w_FnExactIsDepthProof_j1 (F : Nat) (aProof_2 : (List (S3 (List Int) Int (List Int)))) (aG_1 : (Int × (List (Int × Int)))) (r_8 : (Int × (List (Int × Int)))) (r_9 : (List (S3 (List Int) Int (List Int))))  (t47_11 : Bool) : Option Bool :=
  bif t47_11 then
    some false
  else
    (w_toGraph F aG_1).bind fun r_12 =>
    (w_eqGraph F r_8 r_12).bind fun r_13 =>
    bif (!r_13) then
      some false
    else
      (w_toDepthEntryS F aProof_2).bind fun r_14 =>
      (w_eqDepthEntryS F r_9 r_14).bind fun r_15 =>
      bif (!r_15) then
        some false
      else
        some true
theorem t_f9_j1 (H : H9 D σ F) (aProof_2 : (List (S3 (List Int) Int (List Int)))) (aG_1 : (Int × (List (Int × Int)))) (r_8 : (Int × (List (Int × Int)))) (r_9 : (List (S3 (List Int) Int (List Int))))  (t47_11 : Bool) (s : Nat → V) (hs : Facts [(1, (Enc.enc (aProof_2 : List (S3 (List Int) Int (List Int))))), (2, (.ref (.bx 2) 0 [] (.agg [(.int .i64 aG_1.1), (Enc.enc (aG_1.2 : List (Int × Int)))]))), (4, (.bool false)), (8, (.ref (.bx 8) 0 [] (.agg [(.int .i64 r_8.1), (Enc.enc (r_8.2 : List (Int × Int)))]))), (9, (Enc.enc (r_9 : List (S3 (List Int) Int (List Int))))), (47, (.bool t47_11))] s) (h : w_FnExactIsDepthProof_j1 F aProof_2 aG_1 r_8 r_9  t47_11 = some r) : Run D σ (R9 r) (.nrm [.sq A9_1, .sq A9_2]) s := by
  unfold w_FnExactIsDepthProof_j1 at h
  obtain ⟨h1, h2, h4, h8, h9, h47⟩ := hs
  refine .nsq ?_
  refine run_cond (t := t47_11) h47 h (fun h => ?_) (fun h => ?_)
  · refine .seq ?_
    refine run_reg ?_
    refine e_end ?_
    refine g_v0 (.bool false) rfl rfl ?_
    refine g_end ?_
    refine e_end ?_
    refine renew [(1, (Enc.enc (aProof_2 : List (S3 (List Int) Int (List Int))))), (2, (.ref (.bx 2) 0 [] (.agg [(.int .i64 aG_1.1), (Enc.enc (aG_1.2 : List (Int × Int)))]))), (4, (.bool false)), (8, (.ref (.bx 8) 0 [] (.agg [(.int .i64 r_8.1), (Enc.enc (r_8.2 : List (Int × Int)))]))), (9, (Enc.enc (r_9 : List (S3 (List Int) Int (List Int)))))] ⟨h1, h2, rfl, h8, h9⟩ ?_
    rintro s ⟨h1, h2, h4, h8, h9⟩
    refine .nsq ?_
    refine .ret ?_
    have hr := Option.some.inj h
    subst hr
    exact rrA (res_tmp h4) rfl
  · refine .skip ?_
    refine .nsq ?_
    refine .seq ?_
    refine .seq ?_
    refine run_reg ?_
    refine e_end ?_
    refine g_v1 (t := 8) (u := (.ref (.bx 8) 0 [] (.agg [(.int .i64 r_8.1), (Enc.enc (r_8.2 : List (Int × Int)))]))) (.agg [(.int .i64 r_8.1), (Enc.enc (r_8.2 : List (Int × Int)))]) h8 rfl rfl ?_
    refine g_v1 (t := 2) (u := (.ref (.bx 2) 0 [] (.agg [(.int .i64 aG_1.1), (Enc.enc (aG_1.2 : List (Int × Int)))]))) (.agg [(.int .i64 aG_1.1), (Enc.enc (aG_1.2 : List (Int × Int)))]) h2 rfl rfl ?_
    obtain ⟨r_12, E_r_12, h⟩ := bind_some h
    refine g_call (m := 0) (al := true) (r := (Enc.enc (r_12 : (Int × (List (Int × Int)))))) [Enc.enc (aG_1 : (Int × (List (Int × Int))))] (ta_cons (v := (.agg [(.int .i64 aG_1.1), (Enc.enc (aG_1.2 : List (Int × Int)))])) rfl rfl (Enc.erase_enc (aG_1 : (Int × (List (Int × Int))))) ta_nil) (H.c13 _ _ E_r_12) H.g13 (hal_of (ht_cons (v := (.agg [(.int .i64 aG_1.1), (Enc.enc (aG_1.2 : List (Int × Int)))])) rfl rfl rfl ht_nil)) rfl rfl rfl ?_
    obtain ⟨r_13, E_r_13, h⟩ := bind_some h
    refine g_call (m := 0) (al := false) (r := (Enc.enc (r_13 : Bool))) [Enc.enc (r_8 : (Int × (List (Int × Int)))), Enc.enc (r_12 : (Int × (List (Int × Int))))] (ta_cons (v := (.agg [(.int .i64 r_8.1), (Enc.enc (r_8.2 : List (Int × Int)))])) rfl rfl (Enc.erase_enc (r_8 : (Int × (List (Int × Int))))) (ta_cons (v := (.agg [(.int .i64 r_12.1), (Enc.enc (r_12.2 : List (Int × Int)))])) rfl rfl (Enc.erase_enc (r_12 : (Int × (List (Int × Int))))) ta_nil)) (H.c16 _ _ _ E_r_13) H.g16 rfl rfl rfl rfl ?_
    refine g_v1 (t := 51) (u := (.bool r_13)) (.bool (!r_13)) rfl rfl rfl ?_
    refine g_end ?_
    refine e_end ?_
    refine renew [(1, (Enc.enc (aProof_2 : List (S3 (List Int) Int (List Int))))), (4, (.bool false)), (9, (Enc.enc (r_9 : List (S3 (List Int) Int (List Int))))), (52, (.bool (!r_13)))] ⟨h1, h4, h9, rfl⟩ ?_
    rintro s ⟨h1, h4, h9, h52⟩
    refine .nsq ?_
    refine run_cond (t := (!r_13)) h52 h (fun h => ?_) (fun h => ?_)
    · refine .seq ?_
      refine run_reg ?_
      refine e_end ?_
      refine g_v0 (.bool false) rfl rfl ?_
      refine g_end ?_
      refine e_end ?_
      refine renew [(1, (Enc.enc (aProof_2 : List (S3 (List Int) Int (List Int))))), (4, (.bool false)), (9, (Enc.enc (r_9 : List (S3 (List Int) Int (List Int)))))] ⟨h1, rfl, h9⟩ ?_
      rintro s ⟨h1, h4, h9⟩
      refine .nsq ?_
      refine .ret ?_
      have hr := Option.some.inj h
      subst hr
      exact rrA (res_tmp h4) rfl
    · refine .skip ?_
      refine .nsq ?_
      refine .seq ?_
      refine .seq ?_
      refine run_reg ?_
      refine e_end ?_
      refine g_v1 (t := 9) (u := (Enc.enc (r_9 : List (S3 (List Int) Int (List Int))))) (Enc.enc (r_9 : List (S3 (List Int) Int (List Int)))) h9 rfl rfl ?_
      refine g_v1 (t := 1) (u := (Enc.enc (aProof_2 : List (S3 (List Int) Int (List Int))))) (Enc.enc (aProof_2 : List (S3 (List Int) Int (List Int)))) h1 rfl rfl ?_
      obtain ⟨r_14, E_r_14, h⟩ := bind_some h
      refine g_call (m := 0) (al := true) (r := (Enc.enc (r_14 : (List (S3 (List Int) Int (List Int)))))) [Enc.enc (aProof_2 : (List (S3 (List Int) Int (List Int))))] (ta_cons (v := (Enc.enc (aProof_2 : List (S3 (List Int) Int (List Int))))) rfl rfl (Enc.erase_enc (aProof_2 : (List (S3 (List Int) Int (List Int))))) ta_nil) (H.c36 _ _ E_r_14) H.g36 (hal_of (ht_cons (v := (Enc.enc (aProof_2 : List (S3 (List Int) Int (List Int))))) rfl rfl rfl ht_nil)) rfl rfl rfl ?_
      obtain ⟨r_15, E_r_15, h⟩ := bind_some h
      refine g_call (m := 0) (al := false) (r := (Enc.enc (r_15 : Bool))) [Enc.enc (r_9 : (List (S3 (List Int) Int (List Int)))), Enc.enc (r_14 : (List (S3 (List Int) Int (List Int))))] (ta_cons (v := (Enc.enc (r_9 : List (S3 (List Int) Int (List Int))))) rfl rfl (Enc.erase_enc (r_9 : (List (S3 (List Int) Int (List Int))))) (ta_cons (v := (Enc.enc (r_14 : List (S3 (List Int) Int (List Int))))) rfl rfl (Enc.erase_enc (r_14 : (List (S3 (List Int) Int (List Int))))) ta_nil)) (H.c38 _ _ _ E_r_15) H.g38 rfl rfl rfl rfl ?_
      refine g_v1 (t := 56) (u := (.bool r_15)) (.bool (!r_15)) rfl rfl rfl ?_
      refine g_end ?_
      refine e_end ?_
      refine renew [(4, (.bool false)), (57, (.bool (!r_15)))] ⟨h4, rfl⟩ ?_
      rintro s ⟨h4, h57⟩
      refine .nsq ?_
      refine run_cond (t := (!r_15)) h57 h (fun h => ?_) (fun h => ?_)
      · refine .seq ?_
        refine run_reg ?_
        refine e_end ?_
        refine g_v0 (.bool false) rfl rfl ?_
        refine g_end ?_
        refine e_end ?_
        refine renew [(4, (.bool false))] rfl ?_
        rintro s h4
        refine .nsq ?_
        refine .ret ?_
        have hr := Option.some.inj h
        subst hr
        exact rrA (res_tmp h4) rfl
      · refine .skip ?_
        refine .nsq ?_
        refine .seq ?_
        refine run_reg ?_
        refine e_end ?_
        refine g_v0 (.bool true) rfl rfl ?_
        refine g_end ?_
        refine e_end ?_
        refine renew [(4, (.bool true))] rfl ?_
        rintro s h4
        refine .nsq ?_
        refine .ret ?_
        have hr := Option.some.inj h
        subst hr
        exact rrA (res_tmp h4) rfl
def w_FnExactIsDepthProof (F : Nat) (aG_1 : (Int × (List (Int × Int)))) (aProof_2 : (List (S3 (List Int) Int (List Int)))) : Option Bool :=
  (w_szGraph F aG_1 1048576).bind fun r_3 =>
  bif decide (r_3 < 0) then
    some true
  else
    (w_szDepthEntryS F aProof_2 r_3).bind fun r_4 =>
    bif decide (r_4 < 0) then
      some true
    else
      (w_toGraph F aG_1).bind fun r_5 =>
      (w_toDepthEntryS F aProof_2).bind fun r_6 =>
      (s_IsDepthProof F r_5 r_6).bind fun r_7 =>
      (w_toGraph F aG_1).bind fun r_8 =>
      (w_toDepthEntryS F aProof_2).bind fun r_9 =>
      (i_IsDepthProof F r_8 r_9).bind fun r_10 =>
      bif (r_10.1 != r_7.1) then
        w_FnExactIsDepthProof_j1 F aProof_2 aG_1 r_8 r_9 true
      else
        w_FnExactIsDepthProof_j1 F aProof_2 aG_1 r_8 r_9 (r_10.2 != r_7.2)
theorem t9 (H : H9 D σ F) (aG_1 : (Int × (List (Int × Int)))) (aProof_2 : (List (S3 (List Int) Int (List Int)))) (s : Nat → V) (hs : Facts [(0, (.agg [(.int .i64 aG_1.1), (Enc.enc (aG_1.2 : List (Int × Int)))])), (1, (Enc.enc (aProof_2 : List (S3 (List Int) Int (List Int)))))] s) (h : w_FnExactIsDepthProof F aG_1 aProof_2 = some r) : Run D σ (R9 r) (.run A9 []) s := by
  unfold w_FnExactIsDepthProof at h
  obtain ⟨h0, h1⟩ := hs
  refine .seq ?_
  refine run_reg ?_
  refine e_clr ?_
  refine e_end ?_
  refine g_box (.agg [(.int .i64 aG_1.1), (Enc.enc (aG_1.2 : List (Int × Int)))]) (rd_of (keep_clear (s := s) (pk := [2]) h0 rfl (map_agg (maps_cons rfl (maps_cons (Enc.map_enc _ (aG_1.2 : List (Int × Int))) maps_nil)))) rfl) (gone_clear (s := s) (pk := [2]) (t := 2) rfl) rfl ?_
  refine g_v0 (.bool false) rfl rfl ?_
  refine g_end ?_
  refine e_end ?_
  refine renew [(1, (Enc.enc (aProof_2 : List (S3 (List Int) Int (List Int))))), (2, (.ref (.bx 2) 0 [] (.agg [(.int .i64 aG_1.1), (Enc.enc (aG_1.2 : List (Int × Int)))]))), (4, (.bool false))] ⟨(keep_clear (s := s) (pk := [2]) h1 rfl (Enc.map_enc _ (aProof_2 : List (S3 (List Int) Int (List Int))))), rfl, rfl⟩ ?_
  rintro s ⟨h1, h2, h4⟩
  refine .nsq ?_
  refine .seq ?_
  refine run_reg ?_
  refine e_end ?_
  refine g_v0 (.int .i64 1048576) rfl rfl ?_
  refine g_end ?_
  refine e_end ?_
  refine renew [(1, (Enc.enc (aProof_2 : List (S3 (List Int) Int (List Int))))), (2, (.ref (.bx 2) 0 [] (.agg [(.int .i64 aG_1.1), (Enc.enc (aG_1.2 : List (Int × Int)))]))), (4, (.bool false)), (5, (.int .i64 1048576))] ⟨h1, h2, h4, rfl⟩ ?_
  rintro s ⟨h1, h2, h4, h5⟩
  refine .nsq ?_
  refine .seq ?_
  refine run_reg ?_
  refine e_end ?_
  refine g_v1 (t := 2) (u := (.ref (.bx 2) 0 [] (.agg [(.int .i64 aG_1.1), (Enc.enc (aG_1.2 : List (Int × Int)))]))) (.agg [(.int .i64 aG_1.1), (Enc.enc (aG_1.2 : List (Int × Int)))]) h2 rfl rfl ?_
  refine g_v1 (t := 5) (u := (.int .i64 1048576)) (.int .i64 1048576) h5 rfl rfl ?_
  obtain ⟨r_3, E_r_3, h⟩ := bind_some h
  refine g_call (m := 0) (al := false) (r := (Enc.enc (r_3 : Int))) [Enc.enc (aG_1 : (Int × (List (Int × Int)))), Enc.enc (1048576 : Int)] (ta_cons (v := (.agg [(.int .i64 aG_1.1), (Enc.enc (aG_1.2 : List (Int × Int)))])) rfl rfl (Enc.erase_enc (aG_1 : (Int × (List (Int × Int))))) (ta_cons (v := (.int .i64 1048576)) rfl rfl rfl ta_nil)) (H.c11 _ _ _ E_r_3) H.g11 rfl rfl rfl rfl ?_
  refine g_v1 (t := 14) (u := (.int .i64 r_3)) (.int .i64 r_3) rfl rfl rfl ?_
  refine g_end ?_
  refine e_end ?_
  refine renew [(1, (Enc.enc (aProof_2 : List (S3 (List Int) Int (List Int))))), (2, (.ref (.bx 2) 0 [] (.agg [(.int .i64 aG_1.1), (Enc.enc (aG_1.2 : List (Int × Int)))]))), (4, (.bool false)), (5, (.int .i64 r_3))] ⟨h1, h2, h4, rfl⟩ ?_
  rintro s ⟨h1, h2, h4, h5⟩
  refine .nsq ?_
  refine .seq ?_
  refine .seq ?_
  refine run_reg ?_
  refine e_end ?_
  refine g_v1 (t := 5) (u := (.int .i64 r_3)) (.int .i64 r_3) h5 rfl rfl ?_
  refine g_v1 (t := 15) (u := (.int .i64 r_3)) (.bool (decide (r_3 < 0))) rfl rfl rfl ?_
  refine g_end ?_
  refine e_end ?_
  refine renew [(1, (Enc.enc (aProof_2 : List (S3 (List Int) Int (List Int))))), (2, (.ref (.bx 2) 0 [] (.agg [(.int .i64 aG_1.1), (Enc.enc (aG_1.2 : List (Int × Int)))]))), (4, (.bool false)), (5, (.int .i64 r_3)), (16, (.bool (decide (r_3 < 0))))] ⟨h1, h2, h4, h5, rfl⟩ ?_
  rintro s ⟨h1, h2, h4, h5, h16⟩
  refine .nsq ?_
  refine run_cond (t := decide (r_3 < 0)) h16 h (fun h => ?_) (fun h => ?_)
  · refine .seq ?_
    refine run_reg ?_
    refine e_end ?_
    refine g_v0 (.bool true) rfl rfl ?_
    refine g_end ?_
    refine e_end ?_
    refine renew [(1, (Enc.enc (aProof_2 : List (S3 (List Int) Int (List Int))))), (2, (.ref (.bx 2) 0 [] (.agg [(.int .i64 aG_1.1), (Enc.enc (aG_1.2 : List (Int × Int)))]))), (4, (.bool true)), (5, (.int .i64 r_3))] ⟨h1, h2, rfl, h5⟩ ?_
    rintro s ⟨h1, h2, h4, h5⟩
    refine .nsq ?_
    refine .ret ?_
    have hr := Option.some.inj h
    subst hr
    exact rrA (res_tmp h4) rfl
  · refine .skip ?_
    refine .nsq ?_
    refine .seq ?_
    refine run_reg ?_
    refine e_end ?_
    refine g_v1 (t := 1) (u := (Enc.enc (aProof_2 : List (S3 (List Int) Int (List Int))))) (Enc.enc (aProof_2 : List (S3 (List Int) Int (List Int)))) h1 rfl rfl ?_
    refine g_v1 (t := 5) (u := (.int .i64 r_3)) (.int .i64 r_3) h5 rfl rfl ?_
    obtain ⟨r_4, E_r_4, h⟩ := bind_some h
    refine g_call (m := 0) (al := false) (r := (Enc.enc (r_4 : Int))) [Enc.enc (aProof_2 : (List (S3 (List Int) Int (List Int)))), Enc.enc (r_3 : Int)] (ta_cons (v := (Enc.enc (aProof_2 : List (S3 (List Int) Int (List Int))))) rfl rfl (Enc.erase_enc (aProof_2 : (List (S3 (List Int) Int (List Int))))) (ta_cons (v := (.int .i64 r_3)) rfl rfl rfl ta_nil)) (H.c34 _ _ _ E_r_4) H.g34 rfl rfl rfl rfl ?_
    refine g_v1 (t := 19) (u := (.int .i64 r_4)) (.int .i64 r_4) rfl rfl rfl ?_
    refine g_end ?_
    refine e_end ?_
    refine renew [(1, (Enc.enc (aProof_2 : List (S3 (List Int) Int (List Int))))), (2, (.ref (.bx 2) 0 [] (.agg [(.int .i64 aG_1.1), (Enc.enc (aG_1.2 : List (Int × Int)))]))), (4, (.bool false)), (5, (.int .i64 r_4))] ⟨h1, h2, h4, rfl⟩ ?_
    rintro s ⟨h1, h2, h4, h5⟩
    refine .nsq ?_
    refine .seq ?_
    refine .seq ?_
    refine run_reg ?_
    refine e_end ?_
    refine g_v1 (t := 5) (u := (.int .i64 r_4)) (.int .i64 r_4) h5 rfl rfl ?_
    refine g_v1 (t := 20) (u := (.int .i64 r_4)) (.bool (decide (r_4 < 0))) rfl rfl rfl ?_
    refine g_end ?_
    refine e_end ?_
    refine renew [(1, (Enc.enc (aProof_2 : List (S3 (List Int) Int (List Int))))), (2, (.ref (.bx 2) 0 [] (.agg [(.int .i64 aG_1.1), (Enc.enc (aG_1.2 : List (Int × Int)))]))), (4, (.bool false)), (21, (.bool (decide (r_4 < 0))))] ⟨h1, h2, h4, rfl⟩ ?_
    rintro s ⟨h1, h2, h4, h21⟩
    refine .nsq ?_
    refine run_cond (t := decide (r_4 < 0)) h21 h (fun h => ?_) (fun h => ?_)
    · refine .seq ?_
      refine run_reg ?_
      refine e_end ?_
      refine g_v0 (.bool true) rfl rfl ?_
      refine g_end ?_
      refine e_end ?_
      refine renew [(1, (Enc.enc (aProof_2 : List (S3 (List Int) Int (List Int))))), (2, (.ref (.bx 2) 0 [] (.agg [(.int .i64 aG_1.1), (Enc.enc (aG_1.2 : List (Int × Int)))]))), (4, (.bool true))] ⟨h1, h2, rfl⟩ ?_
      rintro s ⟨h1, h2, h4⟩
      refine .nsq ?_
      refine .ret ?_
      have hr := Option.some.inj h
      subst hr
      exact rrA (res_tmp h4) rfl
    · refine .skip ?_
      refine .nsq ?_
      refine .seq ?_
      refine run_reg ?_
      refine e_end ?_
      refine g_v1 (t := 2) (u := (.ref (.bx 2) 0 [] (.agg [(.int .i64 aG_1.1), (Enc.enc (aG_1.2 : List (Int × Int)))]))) (.agg [(.int .i64 aG_1.1), (Enc.enc (aG_1.2 : List (Int × Int)))]) h2 rfl rfl ?_
      obtain ⟨r_5, E_r_5, h⟩ := bind_some h
      refine g_call (m := 0) (al := true) (r := (Enc.enc (r_5 : (Int × (List (Int × Int)))))) [Enc.enc (aG_1 : (Int × (List (Int × Int))))] (ta_cons (v := (.agg [(.int .i64 aG_1.1), (Enc.enc (aG_1.2 : List (Int × Int)))])) rfl rfl (Enc.erase_enc (aG_1 : (Int × (List (Int × Int))))) ta_nil) (H.c13 _ _ E_r_5) H.g13 (hal_of (ht_cons (v := (.agg [(.int .i64 aG_1.1), (Enc.enc (aG_1.2 : List (Int × Int)))])) rfl rfl rfl ht_nil)) rfl rfl rfl ?_
      refine g_v1 (t := 1) (u := (Enc.enc (aProof_2 : List (S3 (List Int) Int (List Int))))) (Enc.enc (aProof_2 : List (S3 (List Int) Int (List Int)))) h1 rfl rfl ?_
      obtain ⟨r_6, E_r_6, h⟩ := bind_some h
      refine g_call (m := 0) (al := true) (r := (Enc.enc (r_6 : (List (S3 (List Int) Int (List Int)))))) [Enc.enc (aProof_2 : (List (S3 (List Int) Int (List Int))))] (ta_cons (v := (Enc.enc (aProof_2 : List (S3 (List Int) Int (List Int))))) rfl rfl (Enc.erase_enc (aProof_2 : (List (S3 (List Int) Int (List Int))))) ta_nil) (H.c36 _ _ E_r_6) H.g36 (hal_of (ht_cons (v := (Enc.enc (aProof_2 : List (S3 (List Int) Int (List Int))))) rfl rfl rfl ht_nil)) rfl rfl rfl ?_
      obtain ⟨r_7, E_r_7, h⟩ := bind_some h
      refine g_call (m := 0) (al := false) (r := (.tup [Enc.enc (r_7.1 : Bool), Enc.enc (r_7.2 : Bool)])) [Enc.enc (r_5 : (Int × (List (Int × Int)))), Enc.enc (r_6 : (List (S3 (List Int) Int (List Int))))] (ta_cons (v := (.agg [(.int .i64 r_5.1), (Enc.enc (r_5.2 : List (Int × Int)))])) rfl rfl (Enc.erase_enc (r_5 : (Int × (List (Int × Int))))) (ta_cons (v := (Enc.enc (r_6 : List (S3 (List Int) Int (List Int))))) rfl rfl (Enc.erase_enc (r_6 : (List (S3 (List Int) Int (List Int))))) ta_nil)) (H.c35 _ _ _ E_r_7) H.g35 rfl rfl rfl rfl ?_
      refine g_v1 (t := 27) (u := (.tup [(.bool r_7.1), (.bool r_7.2)])) (.tup [(.bool r_7.1), (.bool r_7.2)]) rfl rfl rfl ?_
      refine g_v1 (t := 22) (u := (.tup [(.bool r_7.1), (.bool r_7.2)])) (.bool r_7.1) rfl rfl rfl ?_
      refine g_v1 (t := 22) (u := (.tup [(.bool r_7.1), (.bool r_7.2)])) (.bool r_7.2) rfl rfl rfl ?_
      refine g_v1 (t := 28) (u := (.bool r_7.1)) (.bool r_7.1) rfl rfl rfl ?_
      refine g_v1 (t := 29) (u := (.bool r_7.2)) (.bool r_7.2) rfl rfl rfl ?_
      refine g_end ?_
      refine e_end ?_
      refine renew [(1, (Enc.enc (aProof_2 : List (S3 (List Int) Int (List Int))))), (2, (.ref (.bx 2) 0 [] (.agg [(.int .i64 aG_1.1), (Enc.enc (aG_1.2 : List (Int × Int)))]))), (4, (.bool false)), (6, (.bool r_7.1)), (7, (.bool r_7.2))] ⟨h1, h2, h4, rfl, rfl⟩ ?_
      rintro s ⟨h1, h2, h4, h6, h7⟩
      refine .nsq ?_
      refine .seq ?_
      refine run_reg ?_
      refine e_clr ?_
      refine e_end ?_
      refine g_v1 (t := 2) (u := (.ref (.bx 2) 0 [] (.agg [(.int .i64 aG_1.1), (Enc.enc (aG_1.2 : List (Int × Int)))]))) (.agg [(.int .i64 aG_1.1), (Enc.enc (aG_1.2 : List (Int × Int)))]) (keep_clear (s := s) (pk := [8]) h2 rfl (map_bx rfl (map_agg (maps_cons rfl (maps_cons (Enc.map_enc _ (aG_1.2 : List (Int × Int))) maps_nil))))) rfl rfl ?_
      obtain ⟨r_8, E_r_8, h⟩ := bind_some h
      refine g_call (m := 0) (al := true) (r := (Enc.enc (r_8 : (Int × (List (Int × Int)))))) [Enc.enc (aG_1 : (Int × (List (Int × Int))))] (ta_cons (v := (.agg [(.int .i64 aG_1.1), (Enc.enc (aG_1.2 : List (Int × Int)))])) rfl rfl (Enc.erase_enc (aG_1 : (Int × (List (Int × Int))))) ta_nil) (H.c13 _ _ E_r_8) H.g13 (hal_of (ht_cons (v := (.agg [(.int .i64 aG_1.1), (Enc.enc (aG_1.2 : List (Int × Int)))])) rfl rfl rfl ht_nil)) rfl rfl rfl ?_
      refine g_alloc (gone_clear (s := s) (pk := [8]) (t := 8) rfl) ?_
      refine g_store (.agg [(.int .i64 r_8.1), (Enc.enc (r_8.2 : List (Int × Int)))]) (rd_of rfl rfl) (rd_of rfl rfl) (by refine ⟨by decide, by decide, rfl, rfl, rfl, ?_⟩; first | rfl | simp [V.toks, V.tokss, Enc.toks_enc]) ?_
      refine g_end ?_
      refine e_end ?_
      refine renew [(1, (Enc.enc (aProof_2 : List (S3 (List Int) Int (List Int))))), (2, (.ref (.bx 2) 0 [] (.agg [(.int .i64 aG_1.1), (Enc.enc (aG_1.2 : List (Int × Int)))]))), (4, (.bool false)), (6, (.bool r_7.1)), (7, (.bool r_7.2)), (8, (.ref (.bx 8) 0 [] (.agg [(.int .i64 r_8.1), (Enc.enc (r_8.2 : List (Int × Int)))])))] ⟨(keep_mut (keep_clear (s := s) (pk := [8]) h1 rfl (Enc.map_enc _ (aProof_2 : List (S3 (List Int) Int (List Int))))) (Enc.mut_enc _ _ _ _ (aProof_2 : List (S3 (List Int) Int (List Int))))), (keep_mut (keep_clear (s := s) (pk := [8]) h2 rfl (map_bx rfl (map_agg (maps_cons rfl (maps_cons (Enc.map_enc _ (aG_1.2 : List (Int × Int))) maps_nil))))) (mut_ref_ne rfl rfl (mut_agg (muts_cons rfl (muts_cons (Enc.mut_enc _ _ _ _ (aG_1.2 : List (Int × Int))) rfl))))), (keep_mut (keep_clear (s := s) (pk := [8]) h4 rfl rfl) rfl), (keep_mut (keep_clear (s := s) (pk := [8]) h6 rfl rfl) rfl), (keep_mut (keep_clear (s := s) (pk := [8]) h7 rfl rfl) rfl), (keep_mut rfl rfl)⟩ ?_
      rintro s ⟨h1, h2, h4, h6, h7, h8⟩
      refine .nsq ?_
      refine .seq ?_
      refine run_reg ?_
      refine e_end ?_
      refine g_v1 (t := 1) (u := (Enc.enc (aProof_2 : List (S3 (List Int) Int (List Int))))) (Enc.enc (aProof_2 : List (S3 (List Int) Int (List Int)))) h1 rfl rfl ?_
      obtain ⟨r_9, E_r_9, h⟩ := bind_some h
      refine g_call (m := 0) (al := true) (r := (Enc.enc (r_9 : (List (S3 (List Int) Int (List Int)))))) [Enc.enc (aProof_2 : (List (S3 (List Int) Int (List Int))))] (ta_cons (v := (Enc.enc (aProof_2 : List (S3 (List Int) Int (List Int))))) rfl rfl (Enc.erase_enc (aProof_2 : (List (S3 (List Int) Int (List Int))))) ta_nil) (H.c36 _ _ E_r_9) H.g36 (hal_of (ht_cons (v := (Enc.enc (aProof_2 : List (S3 (List Int) Int (List Int))))) rfl rfl rfl ht_nil)) rfl rfl rfl ?_
      refine g_v1 (t := 33) (u := (Enc.enc (r_9 : List (S3 (List Int) Int (List Int))))) (Enc.enc (r_9 : List (S3 (List Int) Int (List Int)))) rfl rfl rfl ?_
      refine g_end ?_
      refine e_end ?_
      refine renew [(1, (Enc.enc (aProof_2 : List (S3 (List Int) Int (List Int))))), (2, (.ref (.bx 2) 0 [] (.agg [(.int .i64 aG_1.1), (Enc.enc (aG_1.2 : List (Int × Int)))]))), (4, (.bool false)), (6, (.bool r_7.1)), (7, (.bool r_7.2)), (8, (.ref (.bx 8) 0 [] (.agg [(.int .i64 r_8.1), (Enc.enc (r_8.2 : List (Int × Int)))]))), (9, (Enc.enc (r_9 : List (S3 (List Int) Int (List Int)))))] ⟨h1, h2, h4, h6, h7, h8, rfl⟩ ?_
      rintro s ⟨h1, h2, h4, h6, h7, h8, h9⟩
      refine .nsq ?_
      refine .seq ?_
      refine run_reg ?_
      refine e_end ?_
      refine g_v1 (t := 8) (u := (.ref (.bx 8) 0 [] (.agg [(.int .i64 r_8.1), (Enc.enc (r_8.2 : List (Int × Int)))]))) (.agg [(.int .i64 r_8.1), (Enc.enc (r_8.2 : List (Int × Int)))]) h8 rfl rfl ?_
      refine g_v1 (t := 9) (u := (Enc.enc (r_9 : List (S3 (List Int) Int (List Int))))) (Enc.enc (r_9 : List (S3 (List Int) Int (List Int)))) h9 rfl rfl ?_
      obtain ⟨r_10, E_r_10, h⟩ := bind_some h
      refine g_call (m := 0) (al := false) (r := (.tup [Enc.enc (r_10.1 : Bool), Enc.enc (r_10.2 : Bool)])) [Enc.enc (r_8 : (Int × (List (Int × Int)))), Enc.enc (r_9 : (List (S3 (List Int) Int (List Int))))] (ta_cons (v := (.agg [(.int .i64 r_8.1), (Enc.enc (r_8.2 : List (Int × Int)))])) rfl rfl (Enc.erase_enc (r_8 : (Int × (List (Int × Int))))) (ta_cons (v := (Enc.enc (r_9 : List (S3 (List Int) Int (List Int))))) rfl rfl (Enc.erase_enc (r_9 : (List (S3 (List Int) Int (List Int))))) ta_nil)) (H.c37 _ _ _ E_r_10) H.g37 rfl rfl rfl rfl ?_
      refine g_v1 (t := 37) (u := (.tup [(.bool r_10.1), (.bool r_10.2)])) (.tup [(.bool r_10.1), (.bool r_10.2)]) rfl rfl rfl ?_
      refine g_v1 (t := 34) (u := (.tup [(.bool r_10.1), (.bool r_10.2)])) (.bool r_10.1) rfl rfl rfl ?_
      refine g_v1 (t := 34) (u := (.tup [(.bool r_10.1), (.bool r_10.2)])) (.bool r_10.2) rfl rfl rfl ?_
      refine g_v1 (t := 38) (u := (.bool r_10.1)) (.bool r_10.1) rfl rfl rfl ?_
      refine g_v1 (t := 39) (u := (.bool r_10.2)) (.bool r_10.2) rfl rfl rfl ?_
      refine g_end ?_
      refine e_end ?_
      refine renew [(1, (Enc.enc (aProof_2 : List (S3 (List Int) Int (List Int))))), (2, (.ref (.bx 2) 0 [] (.agg [(.int .i64 aG_1.1), (Enc.enc (aG_1.2 : List (Int × Int)))]))), (4, (.bool false)), (6, (.bool r_7.1)), (7, (.bool r_7.2)), (8, (.ref (.bx 8) 0 [] (.agg [(.int .i64 r_8.1), (Enc.enc (r_8.2 : List (Int × Int)))]))), (9, (Enc.enc (r_9 : List (S3 (List Int) Int (List Int))))), (10, (.bool r_10.1)), (11, (.bool r_10.2))] ⟨h1, h2, h4, h6, h7, h8, h9, rfl, rfl⟩ ?_
      rintro s ⟨h1, h2, h4, h6, h7, h8, h9, h10, h11⟩
      refine .nsq ?_
      refine .seq ?_
      refine .seq ?_
      refine run_reg ?_
      refine e_end ?_
      refine g_v1 (t := 10) (u := (.bool r_10.1)) (.bool r_10.1) h10 rfl rfl ?_
      refine g_v1 (t := 6) (u := (.bool r_7.1)) (.bool r_7.1) h6 rfl rfl ?_
      refine g_v2 (t1 := 40) (t2 := 41) (u1 := (.bool r_10.1)) (u2 := (.bool r_7.1)) (.bool (r_10.1 != r_7.1)) rfl rfl rfl rfl ?_
      refine g_v1 (t := 42) (u := (.bool (r_10.1 != r_7.1))) (.bool (r_10.1 != r_7.1)) rfl rfl rfl ?_
      refine split_on (c := (r_10.1 != r_7.1)) h (fun hg4 h => ?_) (fun hg4 h => ?_)
      · refine g_no (Eq.trans (b := .bool (r_10.1 != r_7.1)) rfl (congrArg V.bool hg4)) ?_
        refine g_no (Eq.trans (b := .bool (r_10.1 != r_7.1)) rfl (congrArg V.bool hg4)) ?_
        refine g_no (Eq.trans (b := .bool (r_10.1 != r_7.1)) rfl (congrArg V.bool hg4)) ?_
        refine g_v2 (t1 := 43) (t2 := 46) (u1 := (.bool true)) (u2 := (.tup [])) (.bool true) (Eq.trans (b := .bool (r_10.1 != r_7.1)) rfl (congrArg V.bool hg4)) rfl rfl rfl ?_
        refine g_end ?_
        refine e_end ?_
        refine renew [(1, (Enc.enc (aProof_2 : List (S3 (List Int) Int (List Int))))), (2, (.ref (.bx 2) 0 [] (.agg [(.int .i64 aG_1.1), (Enc.enc (aG_1.2 : List (Int × Int)))]))), (4, (.bool false)), (8, (.ref (.bx 8) 0 [] (.agg [(.int .i64 r_8.1), (Enc.enc (r_8.2 : List (Int × Int)))]))), (9, (Enc.enc (r_9 : List (S3 (List Int) Int (List Int))))), (47, (.bool true))] ⟨h1, h2, h4, h8, h9, rfl⟩ ?_
        rintro s ⟨h1, h2, h4, h8, h9, h47⟩
        exact t_f9_j1 H aProof_2 aG_1 r_8 r_9 true _ ⟨h1, h2, h4, h8, h9, h47⟩ h
      · refine g_yes (Eq.trans (b := .bool (r_10.1 != r_7.1)) rfl (congrArg V.bool hg4)) (g_v1 (t := 11) (u := (.bool r_10.2)) (.bool r_10.2) h11 rfl rfl ?_)
        refine g_yes (Eq.trans (b := .bool (r_10.1 != r_7.1)) rfl (congrArg V.bool hg4)) (g_v1 (t := 7) (u := (.bool r_7.2)) (.bool r_7.2) h7 rfl rfl ?_)
        refine g_yes (Eq.trans (b := .bool (r_10.1 != r_7.1)) rfl (congrArg V.bool hg4)) (g_v2 (t1 := 44) (t2 := 45) (u1 := (.bool r_10.2)) (u2 := (.bool r_7.2)) (.bool (r_10.2 != r_7.2)) rfl rfl rfl rfl ?_)
        refine g_v2 (t1 := 43) (t2 := 46) (u1 := (.bool false)) (u2 := (.bool (r_10.2 != r_7.2))) (.bool (r_10.2 != r_7.2)) (Eq.trans (b := .bool (r_10.1 != r_7.1)) rfl (congrArg V.bool hg4)) rfl rfl rfl ?_
        refine g_end ?_
        refine e_end ?_
        refine renew [(1, (Enc.enc (aProof_2 : List (S3 (List Int) Int (List Int))))), (2, (.ref (.bx 2) 0 [] (.agg [(.int .i64 aG_1.1), (Enc.enc (aG_1.2 : List (Int × Int)))]))), (4, (.bool false)), (8, (.ref (.bx 8) 0 [] (.agg [(.int .i64 r_8.1), (Enc.enc (r_8.2 : List (Int × Int)))]))), (9, (Enc.enc (r_9 : List (S3 (List Int) Int (List Int))))), (47, (.bool (r_10.2 != r_7.2)))] ⟨h1, h2, h4, h8, h9, rfl⟩ ?_
        rintro s ⟨h1, h2, h4, h8, h9, h47⟩
        exact t_f9_j1 H aProof_2 aG_1 r_8 r_9 (r_10.2 != r_7.2) _ ⟨h1, h2, h4, h8, h9, h47⟩ h
end
def e9 (F : Nat) : Ent := ⟨9, da (fun (x : ((Int × (List (Int × Int))) × (List (S3 (List Int) Int (List Int))) × Unit)) => w_FnExactIsDepthProof F x.1 x.2.1) (fun (r : Bool) => (Enc.enc (r : Bool))), 0, false, selF []⟩
theorem p9 {F : Nat} {x0 : (Int × (List (Int × Int)))} {x1 : (List (S3 (List Int) Int (List Int)))} {r : Bool} (h : w_FnExactIsDepthProof F x0 x1 = some r) : (e9 F).den [Enc.enc x0, Enc.enc x1] = some (Enc.enc (r : Bool)) := da_put (f := fun (x : ((Int × (List (Int × Int))) × (List (S3 (List Int) Int (List Int))) × Unit)) => w_FnExactIsDepthProof F x.1 x.2.1) (t := fun (r : Bool) => (Enc.enc (r : Bool))) (x0, x1, ()) h
theorem o9 {D : Den} {σ : Sig} {F : Nat} (hF : Fits2 Try.prog D σ) (H : H9 D σ F) : (e9 F).Ok Try.prog := by
  refine ⟨fun args r h => ?_, ⟨Try.f9, Try.func9, rfl, rfl⟩⟩
  obtain ⟨⟨x0, x1, _⟩, y, rfl, hy, rfl⟩ := da_open h
  exact contract_run hF (by kernel_rfl) Try.func9 rfl c9 (show 2 ≤ Try.f9.ntmps by decide) (t9 H x0 x1 _ ⟨rfl, rfl⟩ hy)
end Go.Zq
