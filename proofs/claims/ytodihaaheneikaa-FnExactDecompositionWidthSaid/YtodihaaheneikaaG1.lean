/- Functions of the program as typed functions, and that the machine runs as they say (part 1). No further condition. -/
import Derived.Test.YtodihaaheneikaaK2
import Derived.Test.YtodihaaheneikaaProg
import Derived.Test.YtodihaaheneikaaChecked
import Derived.KernelRfl
set_option linter.unusedVariables false
set_option linter.unusedSimpArgs false
/- Functions of the program, as typed functions, and that the machine runs as they say. -/
namespace Go.Zq
open Go.Proofs
/- loop.example/g01109/laws.szIntA2S -/
def A41_3 : AC := (AC.cond (O.t 10) (AC.seq (AC.reg [] [(I.mk (some 4) none false (X.v (A.mov (O.k (V.int IntKind.i64 (Int.negSucc 0))))))] []) AC.ret) AC.skip)
def A41_4 : AC := (AC.seq (AC.reg [] [(I.mk (some 11) none false (X.v (A.mov (O.t 1)))), (I.mk (some 4) none false (X.v (A.mov (O.t 11))))] []) AC.ret)
def A41_2 : AC := (AC.seq (AC.seq (AC.reg [] [(I.mk (some 9) none false (X.v (A.mov (O.t 1)))), (I.mk (some 10) none false (X.v (A.bin BinOp.lss (O.t 9) (O.k (V.int IntKind.i64 (Int.ofNat 0))))))] []) A41_3) A41_4)
def A41_1 : AC := (AC.seq (AC.reg [] [(I.mk (some 5) none false (X.v (A.mov (O.t 1)))), (I.mk (some 6) none false (X.v (A.mov (O.t 0)))), (I.mk (some 7) none false (X.v (A.len (O.t 6)))), (I.mk (some 8) none false (X.v (A.bin BinOp.sub (O.t 5) (O.t 7)))), (I.mk (some 1) none false (X.v (A.mov (O.t 8))))] []) A41_2)
def A41 : AC := (AC.seq (AC.reg [] [(I.mk (some 4) none false (X.v (A.mov (O.k (V.int IntKind.i64 (Int.ofNat 0))))))] []) A41_1)
def an41 : List An := []
theorem c41 : cC Try.prog Try.f41.ntmps an41 (Try.f41.body.getD .skip) = some A41 := by kernel_rfl
structure H41 (D : Den) (σ : Sig) (F : Nat) : Prop where
  mk ::
abbrev R41 (r : Int) : (Nat → V) → Prop := RR Try.prog [.tmp 4] 0 false (Enc.enc (r : Int))
section
variable {D : Den} {σ : Sig} {F : Nat} {r : Int}
def w_szIntA2S (F : Nat) (a_1 : (List (Int × Int))) (left_2 : Int) : Option Int :=
  bif decide ((w64 (left_2 - (a_1.length : Int))) < 0) then
    some (-1)
  else
    some (w64 (left_2 - (a_1.length : Int)))
theorem t41 (H : H41 D σ F) (a_1 : (List (Int × Int))) (left_2 : Int) (s : Nat → V) (hs : Facts [(0, (Enc.enc (a_1 : List (Int × Int)))), (1, (.int .i64 left_2))] s) (h : w_szIntA2S F a_1 left_2 = some r) : Run D σ (R41 r) (.run A41 []) s := by
  unfold w_szIntA2S at h
  obtain ⟨h0, h1⟩ := hs
  refine .seq ?_
  refine run_reg ?_
  refine e_end ?_
  refine g_v0 (.int .i64 0) rfl rfl ?_
  refine g_end ?_
  refine e_end ?_
  refine renew [(0, (Enc.enc (a_1 : List (Int × Int)))), (1, (.int .i64 left_2)), (4, (.int .i64 0))] ⟨h0, h1, rfl⟩ ?_
  rintro s ⟨h0, h1, h4⟩
  refine .nsq ?_
  refine .seq ?_
  refine run_reg ?_
  refine e_end ?_
  refine g_v1 (t := 1) (u := (.int .i64 left_2)) (.int .i64 left_2) h1 rfl rfl ?_
  refine g_v1 (t := 0) (u := (Enc.enc (a_1 : List (Int × Int)))) (Enc.enc (a_1 : List (Int × Int))) h0 rfl rfl ?_
  refine g_v (.int .i64 (a_1.length : Int)) (ev_len (xs := a_1) rfl) ?_
  refine g_v2 (t1 := 5) (t2 := 7) (u1 := (.int .i64 left_2)) (u2 := (.int .i64 (a_1.length : Int))) (.int .i64 (w64 (left_2 - (a_1.length : Int)))) rfl rfl rfl rfl ?_
  refine g_v1 (t := 8) (u := (.int .i64 (w64 (left_2 - (a_1.length : Int))))) (.int .i64 (w64 (left_2 - (a_1.length : Int)))) rfl rfl rfl ?_
  refine g_end ?_
  refine e_end ?_
  refine renew [(1, (.int .i64 (w64 (left_2 - (a_1.length : Int))))), (4, (.int .i64 0))] ⟨rfl, h4⟩ ?_
  rintro s ⟨h1, h4⟩
  refine .nsq ?_
  refine .seq ?_
  refine .seq ?_
  refine run_reg ?_
  refine e_end ?_
  refine g_v1 (t := 1) (u := (.int .i64 (w64 (left_2 - (a_1.length : Int))))) (.int .i64 (w64 (left_2 - (a_1.length : Int)))) h1 rfl rfl ?_
  refine g_v1 (t := 9) (u := (.int .i64 (w64 (left_2 - (a_1.length : Int))))) (.bool (decide ((w64 (left_2 - (a_1.length : Int))) < 0))) rfl rfl rfl ?_
  refine g_end ?_
  refine e_end ?_
  refine renew [(1, (.int .i64 (w64 (left_2 - (a_1.length : Int))))), (4, (.int .i64 0)), (10, (.bool (decide ((w64 (left_2 - (a_1.length : Int))) < 0))))] ⟨h1, h4, rfl⟩ ?_
  rintro s ⟨h1, h4, h10⟩
  refine .nsq ?_
  refine run_cond (t := decide ((w64 (left_2 - (a_1.length : Int))) < 0)) h10 h (fun h => ?_) (fun h => ?_)
  · refine .seq ?_
    refine run_reg ?_
    refine e_end ?_
    refine g_v0 (.int .i64 (-1)) rfl rfl ?_
    refine g_end ?_
    refine e_end ?_
    refine renew [(1, (.int .i64 (w64 (left_2 - (a_1.length : Int))))), (4, (.int .i64 (-1)))] ⟨h1, rfl⟩ ?_
    rintro s ⟨h1, h4⟩
    refine .nsq ?_
    refine .ret ?_
    have hr := Option.some.inj h
    subst hr
    exact rrA (res_tmp h4) rfl
  · refine .skip ?_
    refine .nsq ?_
    refine .seq ?_
    refine run_reg ?_
    refine e_end ?_
    refine g_v1 (t := 1) (u := (.int .i64 (w64 (left_2 - (a_1.length : Int))))) (.int .i64 (w64 (left_2 - (a_1.length : Int)))) h1 rfl rfl ?_
    refine g_v1 (t := 11) (u := (.int .i64 (w64 (left_2 - (a_1.length : Int))))) (.int .i64 (w64 (left_2 - (a_1.length : Int)))) rfl rfl rfl ?_
    refine g_end ?_
    refine e_end ?_
    refine renew [(4, (.int .i64 (w64 (left_2 - (a_1.length : Int)))))] rfl ?_
    rintro s h4
    refine .nsq ?_
    refine .ret ?_
    have hr := Option.some.inj h
    subst hr
    exact rrA (res_tmp h4) rfl
end
def e41 (F : Nat) : Ent := ⟨41, da (fun (x : ((List (Int × Int)) × Int × Unit)) => w_szIntA2S F x.1 x.2.1) (fun (r : Int) => (Enc.enc (r : Int))), 0, false, selF []⟩
theorem p41 {F : Nat} {x0 : (List (Int × Int))} {x1 : Int} {r : Int} (h : w_szIntA2S F x0 x1 = some r) : (e41 F).den [Enc.enc x0, Enc.enc x1] = some (Enc.enc (r : Int)) := da_put (f := fun (x : ((List (Int × Int)) × Int × Unit)) => w_szIntA2S F x.1 x.2.1) (t := fun (r : Int) => (Enc.enc (r : Int))) (x0, x1, ()) h
theorem o41 {D : Den} {σ : Sig} {F : Nat} (hF : Fits2 Try.prog D σ) (H : H41 D σ F) : (e41 F).Ok Try.prog := by
  refine ⟨fun args r h => ?_, ⟨Try.f41, Try.func41, rfl, rfl⟩⟩
  obtain ⟨⟨x0, x1, _⟩, y, rfl, hy, rfl⟩ := da_open h
  exact contract_run hF (by kernel_rfl) Try.func41 rfl c41 (show 2 ≤ Try.f41.ntmps by decide) (t41 H x0 x1 _ ⟨rfl, rfl⟩ hy)
/- loop.example/g01109/laws.szGraph -/
def A11_3 : AC := (AC.cond (O.t 10) (AC.seq (AC.reg [] [(I.mk (some 4) none false (X.v (A.mov (O.k (V.int IntKind.i64 (Int.negSucc 0))))))] []) AC.ret) AC.skip)
def A11_4 : AC := (AC.seq (AC.reg [] [(I.mk (some 11) none false (X.v (A.mov (O.t 1)))), (I.mk (some 4) none false (X.v (A.mov (O.t 11))))] []) AC.ret)
def A11_2 : AC := (AC.seq (AC.seq (AC.reg [] [(I.mk (some 9) none false (X.v (A.mov (O.t 1)))), (I.mk (some 10) none false (X.v (A.bin BinOp.lss (O.t 9) (O.k (V.int IntKind.i64 (Int.ofNat 0))))))] []) A11_3) A11_4)
def A11_1 : AC := (AC.seq (AC.reg [] [(I.mk (some 5) none false (X.v (A.fld (O.t 2) 1 1))), (I.mk (some 6) none false (X.v (A.load Sh.p (O.t 5)))), (I.mk (some 7) none false (X.v (A.mov (O.t 1)))), (I.mk (some 8) none false (X.call (O.k (V.fn 41 [] [])) [(O.t 6), (O.t 7)])), (I.mk (some 1) none false (X.v (A.mov (O.t 8))))] []) A11_2)
def A11 : AC := (AC.seq (AC.reg [.clr [2]] [(I.mk (some 2) none false (X.box (O.t 0))), (I.mk (some 4) none false (X.v (A.mov (O.k (V.int IntKind.i64 (Int.ofNat 0))))))] []) A11_1)
def an11 : List An := [{ id := 0, pre := [.clr [2]], ep := [], lin := [], sp := [] }]
theorem c11 : cC Try.prog Try.f11.ntmps an11 (Try.f11.body.getD .skip) = some A11 := by kernel_rfl
structure H11 (D : Den) (σ : Sig) (F : Nat) : Prop where
  c41 : ∀ (x0 : (List (Int × Int))) (x1 : Int) r, w_szIntA2S F x0 x1 = some r → D 41 [Enc.enc x0, Enc.enc x1] = some (Enc.enc (r : Int))
  g41 : σ 41 = some (0, false)
abbrev R11 (r : Int) : (Nat → V) → Prop := RR Try.prog [.tmp 4] 0 false (Enc.enc (r : Int))
section
variable {D : Den} {σ : Sig} {F : Nat} {r : Int}
def w_szGraph (F : Nat) (a_1 : (Int × (List (Int × Int)))) (left_2 : Int) : Option Int :=
  (w_szIntA2S F a_1.2 left_2).bind fun r_3 =>
  bif decide (r_3 < 0) then
    some (-1)
  else
    some r_3
theorem t11 (H : H11 D σ F) (a_1 : (Int × (List (Int × Int)))) (left_2 : Int) (s : Nat → V) (hs : Facts [(0, (.agg [(.int .i64 a_1.1), (Enc.enc (a_1.2 : List (Int × Int)))])), (1, (.int .i64 left_2))] s) (h : w_szGraph F a_1 left_2 = some r) : Run D σ (R11 r) (.run A11 []) s := by
  unfold w_szGraph at h
  obtain ⟨h0, h1⟩ := hs
  refine .seq ?_
  refine run_reg ?_
  refine e_clr ?_
  refine e_end ?_
  refine g_box (.agg [(.int .i64 a_1.1), (Enc.enc (a_1.2 : List (Int × Int)))]) (rd_of (keep_clear (s := s) (pk := [2]) h0 rfl (map_agg (maps_cons rfl (maps_cons (Enc.map_enc _ (a_1.2 : List (Int × Int))) maps_nil)))) rfl) (gone_clear (s := s) (pk := [2]) (t := 2) rfl) rfl ?_
  refine g_v0 (.int .i64 0) rfl rfl ?_
  refine g_end ?_
  refine e_end ?_
  refine renew [(1, (.int .i64 left_2)), (2, (.ref (.bx 2) 0 [] (.agg [(.int .i64 a_1.1), (Enc.enc (a_1.2 : List (Int × Int)))]))), (4, (.int .i64 0))] ⟨(keep_clear (s := s) (pk := [2]) h1 rfl rfl), rfl, rfl⟩ ?_
  rintro s ⟨h1, h2, h4⟩
  refine .nsq ?_
  refine .seq ?_
  refine run_reg ?_
  refine e_end ?_
  refine g_v1 (t := 2) (u := (.ref (.bx 2) 0 [] (.agg [(.int .i64 a_1.1), (Enc.enc (a_1.2 : List (Int × Int)))]))) (.ref (.bx 2) 0 [1] (Enc.enc (a_1.2 : List (Int × Int)))) h2 rfl rfl ?_
  refine g_v1 (t := 5) (u := (.ref (.bx 2) 0 [1] (Enc.enc (a_1.2 : List (Int × Int))))) (Enc.enc (a_1.2 : List (Int × Int))) rfl rfl rfl ?_
  refine g_v1 (t := 1) (u := (.int .i64 left_2)) (.int .i64 left_2) h1 rfl rfl ?_
  obtain ⟨r_3, E_r_3, h⟩ := bind_some h
  refine g_call (m := 0) (al := false) (r := (Enc.enc (r_3 : Int))) [Enc.enc (a_1.2 : (List (Int × Int))), Enc.enc (left_2 : Int)] (ta_cons (v := (Enc.enc (a_1.2 : List (Int × Int)))) rfl rfl (Enc.erase_enc (a_1.2 : (List (Int × Int)))) (ta_cons (v := (.int .i64 left_2)) rfl rfl rfl ta_nil)) (H.c41 _ _ _ E_r_3) H.g41 rfl rfl rfl rfl ?_
  refine g_v1 (t := 8) (u := (.int .i64 r_3)) (.int .i64 r_3) rfl rfl rfl ?_
  refine g_end ?_
  refine e_end ?_
  refine renew [(1, (.int .i64 r_3)), (4, (.int .i64 0))] ⟨rfl, h4⟩ ?_
  rintro s ⟨h1, h4⟩
  refine .nsq ?_
  refine .seq ?_
  refine .seq ?_
  refine run_reg ?_
  refine e_end ?_
  refine g_v1 (t := 1) (u := (.int .i64 r_3)) (.int .i64 r_3) h1 rfl rfl ?_
  refine g_v1 (t := 9) (u := (.int .i64 r_3)) (.bool (decide (r_3 < 0))) rfl rfl rfl ?_
  refine g_end ?_
  refine e_end ?_
  refine renew [(1, (.int .i64 r_3)), (4, (.int .i64 0)), (10, (.bool (decide (r_3 < 0))))] ⟨h1, h4, rfl⟩ ?_
  rintro s ⟨h1, h4, h10⟩
  refine .nsq ?_
  refine run_cond (t := decide (r_3 < 0)) h10 h (fun h => ?_) (fun h => ?_)
  · refine .seq ?_
    refine run_reg ?_
    refine e_end ?_
    refine g_v0 (.int .i64 (-1)) rfl rfl ?_
    refine g_end ?_
    refine e_end ?_
    refine renew [(1, (.int .i64 r_3)), (4, (.int .i64 (-1)))] ⟨h1, rfl⟩ ?_
    rintro s ⟨h1, h4⟩
    refine .nsq ?_
    refine .ret ?_
    have hr := Option.some.inj h
    subst hr
    exact rrA (res_tmp h4) rfl
  · refine .skip ?_
    refine .nsq ?_
    refine .seq ?_
    refine run_reg ?_
    refine e_end ?_
    refine g_v1 (t := 1) (u := (.int .i64 r_3)) (.int .i64 r_3) h1 rfl rfl ?_
    refine g_v1 (t := 11) (u := (.int .i64 r_3)) (.int .i64 r_3) rfl rfl rfl ?_
    refine g_end ?_
    refine e_end ?_
    refine renew [(4, (.int .i64 r_3))] rfl ?_
    rintro s h4
    refine .nsq ?_
    refine .ret ?_
    have hr := Option.some.inj h
    subst hr
    exact rrA (res_tmp h4) rfl
end
def e11 (F : Nat) : Ent := ⟨11, da (fun (x : ((Int × (List (Int × Int))) × Int × Unit)) => w_szGraph F x.1 x.2.1) (fun (r : Int) => (Enc.enc (r : Int))), 0, false, selF []⟩
theorem p11 {F : Nat} {x0 : (Int × (List (Int × Int)))} {x1 : Int} {r : Int} (h : w_szGraph F x0 x1 = some r) : (e11 F).den [Enc.enc x0, Enc.enc x1] = some (Enc.enc (r : Int)) := da_put (f := fun (x : ((Int × (List (Int × Int))) × Int × Unit)) => w_szGraph F x.1 x.2.1) (t := fun (r : Int) => (Enc.enc (r : Int))) (x0, x1, ()) h
theorem o11 {D : Den} {σ : Sig} {F : Nat} (hF : Fits2 Try.prog D σ) (H : H11 D σ F) : (e11 F).Ok Try.prog := by
  refine ⟨fun args r h => ?_, ⟨Try.f11, Try.func11, rfl, rfl⟩⟩
  obtain ⟨⟨x0, x1, _⟩, y, rfl, hy, rfl⟩ := da_open h
  exact contract_run hF (by kernel_rfl) Try.func11 rfl c11 (show 2 ≤ Try.f11.ntmps by decide) (t11 H x0 x1 _ ⟨rfl, rfl⟩ hy)
/- loop.example/g01109/laws.szIntS -/
def A51_3 : AC := (AC.cond (O.t 10) (AC.seq (AC.reg [] [(I.mk (some 4) none false (X.v (A.mov (O.k (V.int IntKind.i64 (Int.negSucc 0))))))] []) AC.ret) AC.skip)
def A51_4 : AC := (AC.seq (AC.reg [] [(I.mk (some 11) none false (X.v (A.mov (O.t 1)))), (I.mk (some 4) none false (X.v (A.mov (O.t 11))))] []) AC.ret)
def A51_2 : AC := (AC.seq (AC.seq (AC.reg [] [(I.mk (some 9) none false (X.v (A.mov (O.t 1)))), (I.mk (some 10) none false (X.v (A.bin BinOp.lss (O.t 9) (O.k (V.int IntKind.i64 (Int.ofNat 0))))))] []) A51_3) A51_4)
def A51_1 : AC := (AC.seq (AC.reg [] [(I.mk (some 5) none false (X.v (A.mov (O.t 1)))), (I.mk (some 6) none false (X.v (A.mov (O.t 0)))), (I.mk (some 7) none false (X.v (A.len (O.t 6)))), (I.mk (some 8) none false (X.v (A.bin BinOp.sub (O.t 5) (O.t 7)))), (I.mk (some 1) none false (X.v (A.mov (O.t 8))))] []) A51_2)
def A51 : AC := (AC.seq (AC.reg [] [(I.mk (some 4) none false (X.v (A.mov (O.k (V.int IntKind.i64 (Int.ofNat 0))))))] []) A51_1)
def an51 : List An := []
theorem c51 : cC Try.prog Try.f51.ntmps an51 (Try.f51.body.getD .skip) = some A51 := by kernel_rfl
structure H51 (D : Den) (σ : Sig) (F : Nat) : Prop where
  mk ::
abbrev R51 (r : Int) : (Nat → V) → Prop := RR Try.prog [.tmp 4] 0 false (Enc.enc (r : Int))
section
variable {D : Den} {σ : Sig} {F : Nat} {r : Int}
def w_szIntS (F : Nat) (a_1 : (List Int)) (left_2 : Int) : Option Int :=
  bif decide ((w64 (left_2 - (a_1.length : Int))) < 0) then
    some (-1)
  else
    some (w64 (left_2 - (a_1.length : Int)))
theorem t51 (H : H51 D σ F) (a_1 : (List Int)) (left_2 : Int) (s : Nat → V) (hs : Facts [(0, (Enc.enc (a_1 : List Int))), (1, (.int .i64 left_2))] s) (h : w_szIntS F a_1 left_2 = some r) : Run D σ (R51 r) (.run A51 []) s := by
  unfold w_szIntS at h
  obtain ⟨h0, h1⟩ := hs
  refine .seq ?_
  refine run_reg ?_
  refine e_end ?_
  refine g_v0 (.int .i64 0) rfl rfl ?_
  refine g_end ?_
  refine e_end ?_
  refine renew [(0, (Enc.enc (a_1 : List Int))), (1, (.int .i64 left_2)), (4, (.int .i64 0))] ⟨h0, h1, rfl⟩ ?_
  rintro s ⟨h0, h1, h4⟩
  refine .nsq ?_
  refine .seq ?_
  refine run_reg ?_
  refine e_end ?_
  refine g_v1 (t := 1) (u := (.int .i64 left_2)) (.int .i64 left_2) h1 rfl rfl ?_
  refine g_v1 (t := 0) (u := (Enc.enc (a_1 : List Int))) (Enc.enc (a_1 : List Int)) h0 rfl rfl ?_
  refine g_v (.int .i64 (a_1.length : Int)) (ev_len (xs := a_1) rfl) ?_
  refine g_v2 (t1 := 5) (t2 := 7) (u1 := (.int .i64 left_2)) (u2 := (.int .i64 (a_1.length : Int))) (.int .i64 (w64 (left_2 - (a_1.length : Int)))) rfl rfl rfl rfl ?_
  refine g_v1 (t := 8) (u := (.int .i64 (w64 (left_2 - (a_1.length : Int))))) (.int .i64 (w64 (left_2 - (a_1.length : Int)))) rfl rfl rfl ?_
  refine g_end ?_
  refine e_end ?_
  refine renew [(1, (.int .i64 (w64 (left_2 - (a_1.length : Int))))), (4, (.int .i64 0))] ⟨rfl, h4⟩ ?_
  rintro s ⟨h1, h4⟩
  refine .nsq ?_
  refine .seq ?_
  refine .seq ?_
  refine run_reg ?_
  refine e_end ?_
  refine g_v1 (t := 1) (u := (.int .i64 (w64 (left_2 - (a_1.length : Int))))) (.int .i64 (w64 (left_2 - (a_1.length : Int)))) h1 rfl rfl ?_
  refine g_v1 (t := 9) (u := (.int .i64 (w64 (left_2 - (a_1.length : Int))))) (.bool (decide ((w64 (left_2 - (a_1.length : Int))) < 0))) rfl rfl rfl ?_
  refine g_end ?_
  refine e_end ?_
  refine renew [(1, (.int .i64 (w64 (left_2 - (a_1.length : Int))))), (4, (.int .i64 0)), (10, (.bool (decide ((w64 (left_2 - (a_1.length : Int))) < 0))))] ⟨h1, h4, rfl⟩ ?_
  rintro s ⟨h1, h4, h10⟩
  refine .nsq ?_
  refine run_cond (t := decide ((w64 (left_2 - (a_1.length : Int))) < 0)) h10 h (fun h => ?_) (fun h => ?_)
  · refine .seq ?_
    refine run_reg ?_
    refine e_end ?_
    refine g_v0 (.int .i64 (-1)) rfl rfl ?_
    refine g_end ?_
    refine e_end ?_
    refine renew [(1, (.int .i64 (w64 (left_2 - (a_1.length : Int))))), (4, (.int .i64 (-1)))] ⟨h1, rfl⟩ ?_
    rintro s ⟨h1, h4⟩
    refine .nsq ?_
    refine .ret ?_
    have hr := Option.some.inj h
    subst hr
    exact rrA (res_tmp h4) rfl
  · refine .skip ?_
    refine .nsq ?_
    refine .seq ?_
    refine run_reg ?_
    refine e_end ?_
    refine g_v1 (t := 1) (u := (.int .i64 (w64 (left_2 - (a_1.length : Int))))) (.int .i64 (w64 (left_2 - (a_1.length : Int)))) h1 rfl rfl ?_
    refine g_v1 (t := 11) (u := (.int .i64 (w64 (left_2 - (a_1.length : Int))))) (.int .i64 (w64 (left_2 - (a_1.length : Int)))) rfl rfl rfl ?_
    refine g_end ?_
    refine e_end ?_
    refine renew [(4, (.int .i64 (w64 (left_2 - (a_1.length : Int)))))] rfl ?_
    rintro s h4
    refine .nsq ?_
    refine .ret ?_
    have hr := Option.some.inj h
    subst hr
    exact rrA (res_tmp h4) rfl
end
def e51 (F : Nat) : Ent := ⟨51, da (fun (x : ((List Int) × Int × Unit)) => w_szIntS F x.1 x.2.1) (fun (r : Int) => (Enc.enc (r : Int))), 0, false, selF []⟩
theorem p51 {F : Nat} {x0 : (List Int)} {x1 : Int} {r : Int} (h : w_szIntS F x0 x1 = some r) : (e51 F).den [Enc.enc x0, Enc.enc x1] = some (Enc.enc (r : Int)) := da_put (f := fun (x : ((List Int) × Int × Unit)) => w_szIntS F x.1 x.2.1) (t := fun (r : Int) => (Enc.enc (r : Int))) (x0, x1, ()) h
theorem o51 {D : Den} {σ : Sig} {F : Nat} (hF : Fits2 Try.prog D σ) (H : H51 D σ F) : (e51 F).Ok Try.prog := by
  refine ⟨fun args r h => ?_, ⟨Try.f51, Try.func51, rfl, rfl⟩⟩
  obtain ⟨⟨x0, x1, _⟩, y, rfl, hy, rfl⟩ := da_open h
  exact contract_run hF (by kernel_rfl) Try.func51 rfl c51 (show 2 ≤ Try.f51.ntmps by decide) (t51 H x0 x1 _ ⟨rfl, rfl⟩ hy)
/- loop.example/g01109/laws.szIntSS -/
def A20_2 : AC := (AC.cond (O.t 15) AC.skip (AC.exit 0))
def A20_5 : AC := (AC.cond (O.t 25) (AC.seq (AC.reg [] [(I.mk (some 4) none false (X.v (A.mov (O.k (V.int IntKind.i64 (Int.negSucc 0))))))] []) AC.ret) AC.skip)
def A20_4 : AC := (AC.seq (AC.reg [] [(I.mk (some 24) none false (X.v (A.mov (O.t 1)))), (I.mk (some 25) none false (X.v (A.bin BinOp.lss (O.t 24) (O.k (V.int IntKind.i64 (Int.ofNat 0))))))] []) A20_5)
def A20_6 : AC := (AC.reg [] [(I.mk (some 16) none false (X.v (A.mov (O.t 5)))), (I.mk (some 17) none false (X.v (A.bin BinOp.add (O.t 16) (O.k (V.int IntKind.i64 (Int.ofNat 1)))))), (I.mk (some 5) none false (X.v (A.mov (O.t 17))))] [])
def A20_3 : AC := (AC.seq (AC.block 1 (AC.seq (AC.reg [] [(I.mk (some 18) none false (X.v (A.mov (O.t 0)))), (I.mk (some 19) none false (X.v (A.mov (O.t 5)))), (I.mk (some 20) none false (X.v (A.idx (O.t 18) (O.t 19) 1))), (I.mk (some 21) none false (X.v (A.load Sh.p (O.t 20)))), (I.mk (some 22) none false (X.v (A.mov (O.t 1)))), (I.mk (some 23) none false (X.call (O.k (V.fn 51 [] [])) [(O.t 21), (O.t 22)])), (I.mk (some 1) none false (X.v (A.mov (O.t 23))))] []) A20_4)) A20_6)
def A20_1 : AC := (AC.seq (AC.seq (AC.reg [] [(I.mk (some 12) none false (X.v (A.mov (O.t 5)))), (I.mk (some 13) none false (X.v (A.mov (O.t 0)))), (I.mk (some 14) none false (X.v (A.len (O.t 13)))), (I.mk (some 15) none false (X.v (A.bin BinOp.lss (O.t 12) (O.t 14))))] []) A20_2) A20_3)
def A20_7 : AC := (AC.seq (AC.reg [] [(I.mk (some 26) none false (X.v (A.mov (O.t 1)))), (I.mk (some 4) none false (X.v (A.mov (O.t 26))))] []) AC.ret)
def A20_10 : AC := (AC.cond (O.t 11) (AC.seq (AC.reg [] [(I.mk (some 4) none false (X.v (A.mov (O.k (V.int IntKind.i64 (Int.negSucc 0))))))] []) AC.ret) AC.skip)
def A20_12 : AC := (AC.block 0 (AC.loop A20_1))
def A20_11 : AC := (AC.seq (AC.seq (AC.reg [] [(I.mk (some 5) none false (X.v (A.mov (O.k (V.int IntKind.i64 (Int.ofNat 0))))))] []) A20_12) A20_7)
def A20_9 : AC := (AC.seq (AC.seq (AC.reg [] [(I.mk (some 10) none false (X.v (A.mov (O.t 1)))), (I.mk (some 11) none false (X.v (A.bin BinOp.lss (O.t 10) (O.k (V.int IntKind.i64 (Int.ofNat 0))))))] []) A20_10) A20_11)
def A20_8 : AC := (AC.seq (AC.reg [] [(I.mk (some 6) none false (X.v (A.mov (O.t 1)))), (I.mk (some 7) none false (X.v (A.mov (O.t 0)))), (I.mk (some 8) none false (X.v (A.len (O.t 7)))), (I.mk (some 9) none false (X.v (A.bin BinOp.sub (O.t 6) (O.t 8)))), (I.mk (some 1) none false (X.v (A.mov (O.t 9))))] []) A20_9)
def A20 : AC := (AC.seq (AC.reg [] [(I.mk (some 4) none false (X.v (A.mov (O.k (V.int IntKind.i64 (Int.ofNat 0))))))] []) A20_8)
def an20 : List An := []
theorem c20 : cC Try.prog Try.f20.ntmps an20 (Try.f20.body.getD .skip) = some A20 := by kernel_rfl
structure H20 (D : Den) (σ : Sig) (F : Nat) : Prop where
  c51 : ∀ (x0 : (List Int)) (x1 : Int) r, w_szIntS F x0 x1 = some r → D 51 [Enc.enc x0, Enc.enc x1] = some (Enc.enc (r : Int))
  g51 : σ 51 = some (0, false)
abbrev R20 (r : Int) : (Nat → V) → Prop := RR Try.prog [.tmp 4] 0 false (Enc.enc (r : Int))
section
variable {D : Den} {σ : Sig} {F : Nat} {r : Int}
def w_szIntSS_l1 (F : Nat) (a_1 : (List (List Int)))  : Nat → Int → Int → Option Int
  | 0, _, _ => none
  | k + 1, left_5, i_6 =>
    bif decide (i_6 < (a_1.length : Int)) then
      (idx a_1 i_6).bind fun e_9 =>
      (w_szIntS F e_9 left_5).bind fun r_10 =>
      bif decide (r_10 < 0) then
        some (-1)
      else
        (w_szIntSS_l1 F a_1 k) r_10 (w64 (i_6 + 1))
    else
      some left_5
theorem t_f20_l1 (H : H20 D σ F) (a_1 : (List (List Int)))  : ∀ (k : Nat) (left_5 : Int) (i_6 : Int) (s : Nat → V), Facts [(0, (Enc.enc (a_1 : List (List Int)))), (1, (.int .i64 left_5)), (4, (.int .i64 0)), (5, (.int .i64 i_6))] s → w_szIntSS_l1 F a_1 k left_5 i_6 = some r → Run D σ (R20 r) (.run A20_1 [.lp A20_1, .bk 0, .sq A20_7]) s := by
  intro k
  induction k with
  | zero => intro left_5 i_6 s _ h; exact nomatch (h : (none : Option _) = some r)
  | succ k ih =>
    intro left_5 i_6 s hs h
    rw [w_szIntSS_l1] at h
    obtain ⟨h0, h1, h4, h5⟩ := hs
    refine .seq ?_
    refine .seq ?_
    refine run_reg ?_
    refine e_end ?_
    refine g_v1 (t := 5) (u := (.int .i64 i_6)) (.int .i64 i_6) h5 rfl rfl ?_
    refine g_v1 (t := 0) (u := (Enc.enc (a_1 : List (List Int)))) (Enc.enc (a_1 : List (List Int))) h0 rfl rfl ?_
    refine g_v (.int .i64 (a_1.length : Int)) (ev_len (xs := a_1) rfl) ?_
    refine g_v2 (t1 := 12) (t2 := 14) (u1 := (.int .i64 i_6)) (u2 := (.int .i64 (a_1.length : Int))) (.bool (decide (i_6 < (a_1.length : Int)))) rfl rfl rfl rfl ?_
    refine g_end ?_
    refine e_end ?_
    refine renew [(0, (Enc.enc (a_1 : List (List Int)))), (1, (.int .i64 left_5)), (4, (.int .i64 0)), (5, (.int .i64 i_6)), (15, (.bool (decide (i_6 < (a_1.length : Int)))))] ⟨h0, h1, h4, h5, rfl⟩ ?_
    rintro s ⟨h0, h1, h4, h5, h15⟩
    refine .nsq ?_
    refine run_cond (t := decide (i_6 < (a_1.length : Int))) h15 h (fun h => ?_) (fun h => ?_)
    · refine .skip ?_
      refine .nsq ?_
      refine .seq ?_
      refine .block ?_
      refine .seq ?_
      refine run_reg ?_
      refine e_end ?_
      refine g_v1 (t := 0) (u := (Enc.enc (a_1 : List (List Int)))) (Enc.enc (a_1 : List (List Int))) h0 rfl rfl ?_
      refine g_v1 (t := 5) (u := (.int .i64 i_6)) (.int .i64 i_6) h5 rfl rfl ?_
      obtain ⟨e_9, E_e_9, h⟩ := bind_some h
      refine g_v (.ref .sh 0 [] (Enc.enc (e_9 : List Int))) (ev_idx (t := .sh) (lo := 0) (xs := a_1) rfl rfl E_e_9 rfl rfl) ?_
      refine g_v1 (t := 20) (u := (.ref .sh 0 [] (Enc.enc (e_9 : List Int)))) (Enc.enc (e_9 : List Int)) rfl rfl rfl ?_
      refine g_v1 (t := 1) (u := (.int .i64 left_5)) (.int .i64 left_5) h1 rfl rfl ?_
      obtain ⟨r_10, E_r_10, h⟩ := bind_some h
      refine g_call (m := 0) (al := false) (r := (Enc.enc (r_10 : Int))) [Enc.enc (e_9 : (List Int)), Enc.enc (left_5 : Int)] (ta_cons (v := (Enc.enc (e_9 : List Int))) rfl rfl (Enc.erase_enc (e_9 : (List Int))) (ta_cons (v := (.int .i64 left_5)) rfl rfl rfl ta_nil)) (H.c51 _ _ _ E_r_10) H.g51 rfl rfl rfl rfl ?_
      refine g_v1 (t := 23) (u := (.int .i64 r_10)) (.int .i64 r_10) rfl rfl rfl ?_
      refine g_end ?_
      refine e_end ?_
      refine renew [(0, (Enc.enc (a_1 : List (List Int)))), (1, (.int .i64 r_10)), (4, (.int .i64 0)), (5, (.int .i64 i_6))] ⟨h0, rfl, h4, h5⟩ ?_
      rintro s ⟨h0, h1, h4, h5⟩
      refine .nsq ?_
      refine .seq ?_
      refine run_reg ?_
      refine e_end ?_
      refine g_v1 (t := 1) (u := (.int .i64 r_10)) (.int .i64 r_10) h1 rfl rfl ?_
      refine g_v1 (t := 24) (u := (.int .i64 r_10)) (.bool (decide (r_10 < 0))) rfl rfl rfl ?_
      refine g_end ?_
      refine e_end ?_
      refine renew [(0, (Enc.enc (a_1 : List (List Int)))), (1, (.int .i64 r_10)), (4, (.int .i64 0)), (5, (.int .i64 i_6)), (25, (.bool (decide (r_10 < 0))))] ⟨h0, h1, h4, h5, rfl⟩ ?_
      rintro s ⟨h0, h1, h4, h5, h25⟩
      refine .nsq ?_
      refine run_cond (t := decide (r_10 < 0)) h25 h (fun h => ?_) (fun h => ?_)
      · refine .seq ?_
        refine run_reg ?_
        refine e_end ?_
        refine g_v0 (.int .i64 (-1)) rfl rfl ?_
        refine g_end ?_
        refine e_end ?_
        refine renew [(0, (Enc.enc (a_1 : List (List Int)))), (1, (.int .i64 r_10)), (4, (.int .i64 (-1))), (5, (.int .i64 i_6))] ⟨h0, h1, rfl, h5⟩ ?_
        rintro s ⟨h0, h1, h4, h5⟩
        refine .nsq ?_
        refine .ret ?_
        have hr := Option.some.inj h
        subst hr
        exact rrA (res_tmp h4) rfl
      · refine .skip ?_
        refine .nbk ?_
        refine .nsq ?_
        refine run_reg ?_
        refine e_end ?_
        refine g_v1 (t := 5) (u := (.int .i64 i_6)) (.int .i64 i_6) h5 rfl rfl ?_
        refine g_v1 (t := 16) (u := (.int .i64 i_6)) (.int .i64 (w64 (i_6 + 1))) rfl rfl rfl ?_
        refine g_v1 (t := 17) (u := (.int .i64 (w64 (i_6 + 1)))) (.int .i64 (w64 (i_6 + 1))) rfl rfl rfl ?_
        refine g_end ?_
        refine e_end ?_
        refine renew [(0, (Enc.enc (a_1 : List (List Int)))), (1, (.int .i64 r_10)), (4, (.int .i64 0)), (5, (.int .i64 (w64 (i_6 + 1))))] ⟨h0, h1, h4, rfl⟩ ?_
        rintro s ⟨h0, h1, h4, h5⟩
        refine .nlp ?_
        exact ih r_10 (w64 (i_6 + 1)) _ ⟨h0, h1, h4, h5⟩ h
    · refine .exit ?_
      refine .esq ?_
      refine .elp ?_
      refine .ebk ?_
      refine .nsq ?_
      refine .seq ?_
      refine run_reg ?_
      refine e_end ?_
      refine g_v1 (t := 1) (u := (.int .i64 left_5)) (.int .i64 left_5) h1 rfl rfl ?_
      refine g_v1 (t := 26) (u := (.int .i64 left_5)) (.int .i64 left_5) rfl rfl rfl ?_
      refine g_end ?_
      refine e_end ?_
      refine renew [(4, (.int .i64 left_5))] rfl ?_
      rintro s h4
      refine .nsq ?_
      refine .ret ?_
      have hr := Option.some.inj h
      subst hr
      exact rrA (res_tmp h4) rfl
def w_szIntSS (F : Nat) (a_1 : (List (List Int))) (left_2 : Int) : Option Int :=
  bif decide ((w64 (left_2 - (a_1.length : Int))) < 0) then
    some (-1)
  else
    w_szIntSS_l1 F a_1 F (w64 (left_2 - (a_1.length : Int))) 0
theorem t20 (H : H20 D σ F) (a_1 : (List (List Int))) (left_2 : Int) (s : Nat → V) (hs : Facts [(0, (Enc.enc (a_1 : List (List Int)))), (1, (.int .i64 left_2))] s) (h : w_szIntSS F a_1 left_2 = some r) : Run D σ (R20 r) (.run A20 []) s := by
  unfold w_szIntSS at h
  obtain ⟨h0, h1⟩ := hs
  refine .seq ?_
  refine run_reg ?_
  refine e_end ?_
  refine g_v0 (.int .i64 0) rfl rfl ?_
  refine g_end ?_
  refine e_end ?_
  refine renew [(0, (Enc.enc (a_1 : List (List Int)))), (1, (.int .i64 left_2)), (4, (.int .i64 0))] ⟨h0, h1, rfl⟩ ?_
  rintro s ⟨h0, h1, h4⟩
  refine .nsq ?_
  refine .seq ?_
  refine run_reg ?_
  refine e_end ?_
  refine g_v1 (t := 1) (u := (.int .i64 left_2)) (.int .i64 left_2) h1 rfl rfl ?_
  refine g_v1 (t := 0) (u := (Enc.enc (a_1 : List (List Int)))) (Enc.enc (a_1 : List (List Int))) h0 rfl rfl ?_
  refine g_v (.int .i64 (a_1.length : Int)) (ev_len (xs := a_1) rfl) ?_
  refine g_v2 (t1 := 6) (t2 := 8) (u1 := (.int .i64 left_2)) (u2 := (.int .i64 (a_1.length : Int))) (.int .i64 (w64 (left_2 - (a_1.length : Int)))) rfl rfl rfl rfl ?_
  refine g_v1 (t := 9) (u := (.int .i64 (w64 (left_2 - (a_1.length : Int))))) (.int .i64 (w64 (left_2 - (a_1.length : Int)))) rfl rfl rfl ?_
  refine g_end ?_
  refine e_end ?_
  refine renew [(0, (Enc.enc (a_1 : List (List Int)))), (1, (.int .i64 (w64 (left_2 - (a_1.length : Int))))), (4, (.int .i64 0))] ⟨h0, rfl, h4⟩ ?_
  rintro s ⟨h0, h1, h4⟩
  refine .nsq ?_
  refine .seq ?_
  refine .seq ?_
  refine run_reg ?_
  refine e_end ?_
  refine g_v1 (t := 1) (u := (.int .i64 (w64 (left_2 - (a_1.length : Int))))) (.int .i64 (w64 (left_2 - (a_1.length : Int)))) h1 rfl rfl ?_
  refine g_v1 (t := 10) (u := (.int .i64 (w64 (left_2 - (a_1.length : Int))))) (.bool (decide ((w64 (left_2 - (a_1.length : Int))) < 0))) rfl rfl rfl ?_
  refine g_end ?_
  refine e_end ?_
  refine renew [(0, (Enc.enc (a_1 : List (List Int)))), (1, (.int .i64 (w64 (left_2 - (a_1.length : Int))))), (4, (.int .i64 0)), (11, (.bool (decide ((w64 (left_2 - (a_1.length : Int))) < 0))))] ⟨h0, h1, h4, rfl⟩ ?_
  rintro s ⟨h0, h1, h4, h11⟩
  refine .nsq ?_
  refine run_cond (t := decide ((w64 (left_2 - (a_1.length : Int))) < 0)) h11 h (fun h => ?_) (fun h => ?_)
  · refine .seq ?_
    refine run_reg ?_
    refine e_end ?_
    refine g_v0 (.int .i64 (-1)) rfl rfl ?_
    refine g_end ?_
    refine e_end ?_
    refine renew [(0, (Enc.enc (a_1 : List (List Int)))), (1, (.int .i64 (w64 (left_2 - (a_1.length : Int))))), (4, (.int .i64 (-1)))] ⟨h0, h1, rfl⟩ ?_
    rintro s ⟨h0, h1, h4⟩
    refine .nsq ?_
    refine .ret ?_
    have hr := Option.some.inj h
    subst hr
    exact rrA (res_tmp h4) rfl
  · refine .skip ?_
    refine .nsq ?_
    refine .seq ?_
    refine .seq ?_
    refine run_reg ?_
    refine e_end ?_
    refine g_v0 (.int .i64 0) rfl rfl ?_
    refine g_end ?_
    refine e_end ?_
    refine renew [(0, (Enc.enc (a_1 : List (List Int)))), (1, (.int .i64 (w64 (left_2 - (a_1.length : Int))))), (4, (.int .i64 0)), (5, (.int .i64 0))] ⟨h0, h1, h4, rfl⟩ ?_
    rintro s ⟨h0, h1, h4, h5⟩
    refine .nsq ?_
    refine .block ?_
    refine .loop ?_
    exact t_f20_l1 H a_1 F (w64 (left_2 - (a_1.length : Int))) 0 _ ⟨h0, h1, h4, h5⟩ h
end
def e20 (F : Nat) : Ent := ⟨20, da (fun (x : ((List (List Int)) × Int × Unit)) => w_szIntSS F x.1 x.2.1) (fun (r : Int) => (Enc.enc (r : Int))), 0, false, selF []⟩
theorem p20 {F : Nat} {x0 : (List (List Int))} {x1 : Int} {r : Int} (h : w_szIntSS F x0 x1 = some r) : (e20 F).den [Enc.enc x0, Enc.enc x1] = some (Enc.enc (r : Int)) := da_put (f := fun (x : ((List (List Int)) × Int × Unit)) => w_szIntSS F x.1 x.2.1) (t := fun (r : Int) => (Enc.enc (r : Int))) (x0, x1, ()) h
theorem o20 {D : Den} {σ : Sig} {F : Nat} (hF : Fits2 Try.prog D σ) (H : H20 D σ F) : (e20 F).Ok Try.prog := by
  refine ⟨fun args r h => ?_, ⟨Try.f20, Try.func20, rfl, rfl⟩⟩
  obtain ⟨⟨x0, x1, _⟩, y, rfl, hy, rfl⟩ := da_open h
  exact contract_run hF (by kernel_rfl) Try.func20 rfl c20 (show 2 ≤ Try.f20.ntmps by decide) (t20 H x0 x1 _ ⟨rfl, rfl⟩ hy)
/- loop.example/g01109/laws.szDecomposition -/
def A27_3 : AC := (AC.cond (O.t 10) (AC.seq (AC.reg [] [(I.mk (some 4) none false (X.v (A.mov (O.k (V.int IntKind.i64 (Int.negSucc 0))))))] []) AC.ret) AC.skip)
def A27_6 : AC := (AC.cond (O.t 16) (AC.seq (AC.reg [] [(I.mk (some 4) none false (X.v (A.mov (O.k (V.int IntKind.i64 (Int.negSucc 0))))))] []) AC.ret) AC.skip)
def A27_7 : AC := (AC.seq (AC.reg [] [(I.mk (some 17) none false (X.v (A.mov (O.t 1)))), (I.mk (some 4) none false (X.v (A.mov (O.t 17))))] []) AC.ret)
def A27_5 : AC := (AC.seq (AC.seq (AC.reg [] [(I.mk (some 15) none false (X.v (A.mov (O.t 1)))), (I.mk (some 16) none false (X.v (A.bin BinOp.lss (O.t 15) (O.k (V.int IntKind.i64 (Int.ofNat 0))))))] []) A27_6) A27_7)
def A27_4 : AC := (AC.seq (AC.reg [] [(I.mk (some 11) none false (X.v (A.fld (O.t 2) 1 1))), (I.mk (some 12) none false (X.v (A.load Sh.p (O.t 11)))), (I.mk (some 13) none false (X.v (A.mov (O.t 1)))), (I.mk (some 14) none false (X.call (O.k (V.fn 41 [] [])) [(O.t 12), (O.t 13)])), (I.mk (some 1) none false (X.v (A.mov (O.t 14))))] []) A27_5)
def A27_2 : AC := (AC.seq (AC.seq (AC.reg [] [(I.mk (some 9) none false (X.v (A.mov (O.t 1)))), (I.mk (some 10) none false (X.v (A.bin BinOp.lss (O.t 9) (O.k (V.int IntKind.i64 (Int.ofNat 0))))))] []) A27_3) A27_4)
def A27_1 : AC := (AC.seq (AC.reg [] [(I.mk (some 5) none false (X.v (A.fld (O.t 2) 0 0))), (I.mk (some 6) none false (X.v (A.load Sh.p (O.t 5)))), (I.mk (some 7) none false (X.v (A.mov (O.t 1)))), (I.mk (some 8) none false (X.call (O.k (V.fn 20 [] [])) [(O.t 6), (O.t 7)])), (I.mk (some 1) none false (X.v (A.mov (O.t 8))))] []) A27_2)
def A27 : AC := (AC.seq (AC.reg [.clr [2]] [(I.mk (some 2) none false (X.box (O.t 0))), (I.mk (some 4) none false (X.v (A.mov (O.k (V.int IntKind.i64 (Int.ofNat 0))))))] []) A27_1)
def an27 : List An := [{ id := 0, pre := [.clr [2]], ep := [], lin := [], sp := [] }]
theorem c27 : cC Try.prog Try.f27.ntmps an27 (Try.f27.body.getD .skip) = some A27 := by kernel_rfl
structure H27 (D : Den) (σ : Sig) (F : Nat) : Prop where
  c20 : ∀ (x0 : (List (List Int))) (x1 : Int) r, w_szIntSS F x0 x1 = some r → D 20 [Enc.enc x0, Enc.enc x1] = some (Enc.enc (r : Int))
  g20 : σ 20 = some (0, false)
  c41 : ∀ (x0 : (List (Int × Int))) (x1 : Int) r, w_szIntA2S F x0 x1 = some r → D 41 [Enc.enc x0, Enc.enc x1] = some (Enc.enc (r : Int))
  g41 : σ 41 = some (0, false)
abbrev R27 (r : Int) : (Nat → V) → Prop := RR Try.prog [.tmp 4] 0 false (Enc.enc (r : Int))
section
variable {D : Den} {σ : Sig} {F : Nat} {r : Int}
def w_szDecomposition (F : Nat) (a_1 : ((List (List Int)) × (List (Int × Int)))) (left_2 : Int) : Option Int :=
  (w_szIntSS F a_1.1 left_2).bind fun r_3 =>
  bif decide (r_3 < 0) then
    some (-1)
  else
    (w_szIntA2S F a_1.2 r_3).bind fun r_4 =>
    bif decide (r_4 < 0) then
      some (-1)
    else
      some r_4
theorem t27 (H : H27 D σ F) (a_1 : ((List (List Int)) × (List (Int × Int)))) (left_2 : Int) (s : Nat → V) (hs : Facts [(0, (.agg [(Enc.enc (a_1.1 : List (List Int))), (Enc.enc (a_1.2 : List (Int × Int)))])), (1, (.int .i64 left_2))] s) (h : w_szDecomposition F a_1 left_2 = some r) : Run D σ (R27 r) (.run A27 []) s := by
  unfold w_szDecomposition at h
  obtain ⟨h0, h1⟩ := hs
  refine .seq ?_
  refine run_reg ?_
  refine e_clr ?_
  refine e_end ?_
  refine g_box (.agg [(Enc.enc (a_1.1 : List (List Int))), (Enc.enc (a_1.2 : List (Int × Int)))]) (rd_of (keep_clear (s := s) (pk := [2]) h0 rfl (map_agg (maps_cons (Enc.map_enc _ (a_1.1 : List (List Int))) (maps_cons (Enc.map_enc _ (a_1.2 : List (Int × Int))) maps_nil)))) rfl) (gone_clear (s := s) (pk := [2]) (t := 2) rfl) rfl ?_
  refine g_v0 (.int .i64 0) rfl rfl ?_
  refine g_end ?_
  refine e_end ?_
  refine renew [(1, (.int .i64 left_2)), (2, (.ref (.bx 2) 0 [] (.agg [(Enc.enc (a_1.1 : List (List Int))), (Enc.enc (a_1.2 : List (Int × Int)))]))), (4, (.int .i64 0))] ⟨(keep_clear (s := s) (pk := [2]) h1 rfl rfl), rfl, rfl⟩ ?_
  rintro s ⟨h1, h2, h4⟩
  refine .nsq ?_
  refine .seq ?_
  refine run_reg ?_
  refine e_end ?_
  refine g_v1 (t := 2) (u := (.ref (.bx 2) 0 [] (.agg [(Enc.enc (a_1.1 : List (List Int))), (Enc.enc (a_1.2 : List (Int × Int)))]))) (.ref (.bx 2) 0 [0] (Enc.enc (a_1.1 : List (List Int)))) h2 rfl rfl ?_
  refine g_v1 (t := 5) (u := (.ref (.bx 2) 0 [0] (Enc.enc (a_1.1 : List (List Int))))) (Enc.enc (a_1.1 : List (List Int))) rfl rfl rfl ?_
  refine g_v1 (t := 1) (u := (.int .i64 left_2)) (.int .i64 left_2) h1 rfl rfl ?_
  obtain ⟨r_3, E_r_3, h⟩ := bind_some h
  refine g_call (m := 0) (al := false) (r := (Enc.enc (r_3 : Int))) [Enc.enc (a_1.1 : (List (List Int))), Enc.enc (left_2 : Int)] (ta_cons (v := (Enc.enc (a_1.1 : List (List Int)))) rfl rfl (Enc.erase_enc (a_1.1 : (List (List Int)))) (ta_cons (v := (.int .i64 left_2)) rfl rfl rfl ta_nil)) (H.c20 _ _ _ E_r_3) H.g20 rfl rfl rfl rfl ?_
  refine g_v1 (t := 8) (u := (.int .i64 r_3)) (.int .i64 r_3) rfl rfl rfl ?_
  refine g_end ?_
  refine e_end ?_
  refine renew [(1, (.int .i64 r_3)), (2, (.ref (.bx 2) 0 [] (.agg [(Enc.enc (a_1.1 : List (List Int))), (Enc.enc (a_1.2 : List (Int × Int)))]))), (4, (.int .i64 0))] ⟨rfl, h2, h4⟩ ?_
  rintro s ⟨h1, h2, h4⟩
  refine .nsq ?_
  refine .seq ?_
  refine .seq ?_
  refine run_reg ?_
  refine e_end ?_
  refine g_v1 (t := 1) (u := (.int .i64 r_3)) (.int .i64 r_3) h1 rfl rfl ?_
  refine g_v1 (t := 9) (u := (.int .i64 r_3)) (.bool (decide (r_3 < 0))) rfl rfl rfl ?_
  refine g_end ?_
  refine e_end ?_
  refine renew [(1, (.int .i64 r_3)), (2, (.ref (.bx 2) 0 [] (.agg [(Enc.enc (a_1.1 : List (List Int))), (Enc.enc (a_1.2 : List (Int × Int)))]))), (4, (.int .i64 0)), (10, (.bool (decide (r_3 < 0))))] ⟨h1, h2, h4, rfl⟩ ?_
  rintro s ⟨h1, h2, h4, h10⟩
  refine .nsq ?_
  refine run_cond (t := decide (r_3 < 0)) h10 h (fun h => ?_) (fun h => ?_)
  · refine .seq ?_
    refine run_reg ?_
    refine e_end ?_
    refine g_v0 (.int .i64 (-1)) rfl rfl ?_
    refine g_end ?_
    refine e_end ?_
    refine renew [(1, (.int .i64 r_3)), (2, (.ref (.bx 2) 0 [] (.agg [(Enc.enc (a_1.1 : List (List Int))), (Enc.enc (a_1.2 : List (Int × Int)))]))), (4, (.int .i64 (-1)))] ⟨h1, h2, rfl⟩ ?_
    rintro s ⟨h1, h2, h4⟩
    refine .nsq ?_
    refine .ret ?_
    have hr := Option.some.inj h
    subst hr
    exact rrA (res_tmp h4) rfl
  · refine .skip ?_
    refine .nsq ?_
    refine .seq ?_
    refine run_reg ?_
    refine e_end ?_
    refine g_v1 (t := 2) (u := (.ref (.bx 2) 0 [] (.agg [(Enc.enc (a_1.1 : List (List Int))), (Enc.enc (a_1.2 : List (Int × Int)))]))) (.ref (.bx 2) 0 [1] (Enc.enc (a_1.2 : List (Int × Int)))) h2 rfl rfl ?_
    refine g_v1 (t := 11) (u := (.ref (.bx 2) 0 [1] (Enc.enc (a_1.2 : List (Int × Int))))) (Enc.enc (a_1.2 : List (Int × Int))) rfl rfl rfl ?_
    refine g_v1 (t := 1) (u := (.int .i64 r_3)) (.int .i64 r_3) h1 rfl rfl ?_
    obtain ⟨r_4, E_r_4, h⟩ := bind_some h
    refine g_call (m := 0) (al := false) (r := (Enc.enc (r_4 : Int))) [Enc.enc (a_1.2 : (List (Int × Int))), Enc.enc (r_3 : Int)] (ta_cons (v := (Enc.enc (a_1.2 : List (Int × Int)))) rfl rfl (Enc.erase_enc (a_1.2 : (List (Int × Int)))) (ta_cons (v := (.int .i64 r_3)) rfl rfl rfl ta_nil)) (H.c41 _ _ _ E_r_4) H.g41 rfl rfl rfl rfl ?_
    refine g_v1 (t := 14) (u := (.int .i64 r_4)) (.int .i64 r_4) rfl rfl rfl ?_
    refine g_end ?_
    refine e_end ?_
    refine renew [(1, (.int .i64 r_4)), (4, (.int .i64 0))] ⟨rfl, h4⟩ ?_
    rintro s ⟨h1, h4⟩
    refine .nsq ?_
    refine .seq ?_
    refine .seq ?_
    refine run_reg ?_
    refine e_end ?_
    refine g_v1 (t := 1) (u := (.int .i64 r_4)) (.int .i64 r_4) h1 rfl rfl ?_
    refine g_v1 (t := 15) (u := (.int .i64 r_4)) (.bool (decide (r_4 < 0))) rfl rfl rfl ?_
    refine g_end ?_
    refine e_end ?_
    refine renew [(1, (.int .i64 r_4)), (4, (.int .i64 0)), (16, (.bool (decide (r_4 < 0))))] ⟨h1, h4, rfl⟩ ?_
    rintro s ⟨h1, h4, h16⟩
    refine .nsq ?_
    refine run_cond (t := decide (r_4 < 0)) h16 h (fun h => ?_) (fun h => ?_)
    · refine .seq ?_
      refine run_reg ?_
      refine e_end ?_
      refine g_v0 (.int .i64 (-1)) rfl rfl ?_
      refine g_end ?_
      refine e_end ?_
      refine renew [(1, (.int .i64 r_4)), (4, (.int .i64 (-1)))] ⟨h1, rfl⟩ ?_
      rintro s ⟨h1, h4⟩
      refine .nsq ?_
      refine .ret ?_
      have hr := Option.some.inj h
      subst hr
      exact rrA (res_tmp h4) rfl
    · refine .skip ?_
      refine .nsq ?_
      refine .seq ?_
      refine run_reg ?_
      refine e_end ?_
      refine g_v1 (t := 1) (u := (.int .i64 r_4)) (.int .i64 r_4) h1 rfl rfl ?_
      refine g_v1 (t := 17) (u := (.int .i64 r_4)) (.int .i64 r_4) rfl rfl rfl ?_
      refine g_end ?_
      refine e_end ?_
      refine renew [(4, (.int .i64 r_4))] rfl ?_
      rintro s h4
      refine .nsq ?_
      refine .ret ?_
      have hr := Option.some.inj h
      subst hr
      exact rrA (res_tmp h4) rfl
end
def e27 (F : Nat) : Ent := ⟨27, da (fun (x : (((List (List Int)) × (List (Int × Int))) × Int × Unit)) => w_szDecomposition F x.1 x.2.1) (fun (r : Int) => (Enc.enc (r : Int))), 0, false, selF []⟩
theorem p27 {F : Nat} {x0 : ((List (List Int)) × (List (Int × Int)))} {x1 : Int} {r : Int} (h : w_szDecomposition F x0 x1 = some r) : (e27 F).den [Enc.enc x0, Enc.enc x1] = some (Enc.enc (r : Int)) := da_put (f := fun (x : (((List (List Int)) × (List (Int × Int))) × Int × Unit)) => w_szDecomposition F x.1 x.2.1) (t := fun (r : Int) => (Enc.enc (r : Int))) (x0, x1, ()) h
theorem o27 {D : Den} {σ : Sig} {F : Nat} (hF : Fits2 Try.prog D σ) (H : H27 D σ F) : (e27 F).Ok Try.prog := by
  refine ⟨fun args r h => ?_, ⟨Try.f27, Try.func27, rfl, rfl⟩⟩
  obtain ⟨⟨x0, x1, _⟩, y, rfl, hy, rfl⟩ := da_open h
  exact contract_run hF (by kernel_rfl) Try.func27 rfl c27 (show 2 ≤ Try.f27.ntmps by decide) (t27 H x0 x1 _ ⟨rfl, rfl⟩ hy)
/- loop.example/g01109/laws.toIntA2 -/
def A73_2 : AC := (AC.cond (O.t 6) AC.skip (AC.exit 0))
def A73_4 : AC := (AC.reg [] [(I.mk (some 7) none false (X.v (A.mov (O.t 4)))), (I.mk (some 8) none false (X.v (A.bin BinOp.add (O.t 7) (O.k (V.int IntKind.i64 (Int.ofNat 1)))))), (I.mk (some 4) none false (X.v (A.mov (O.t 8))))] [])
def A73_3 : AC := (AC.seq (AC.block 1 (AC.reg [] [(I.mk (some 9) none false (X.v (A.mov (O.t 4)))), (I.mk (some 10) none false (X.v (A.mov (O.t 4)))), (I.mk (some 11) none false (X.v (A.idxA (O.t 1) (O.t 10) 2 1))), (I.mk (some 12) none false (X.v (A.load Sh.s (O.t 11)))), (I.mk (some 13) none false (X.v (A.idxA (O.t 3) (O.t 9) 2 1))), (I.mk none none false (X.store Sh.s (O.t 13) (O.t 12)))] [])) A73_4)
def A73_1 : AC := (AC.seq (AC.seq (AC.reg [] [(I.mk (some 5) none false (X.v (A.mov (O.t 4)))), (I.mk (some 6) none false (X.v (A.bin BinOp.lss (O.t 5) (O.k (V.int IntKind.i64 (Int.ofNat 2))))))] []) A73_2) A73_3)
def A73_5 : AC := (AC.seq (AC.reg [] [(I.mk (some 14) none false (X.v (A.load (Sh.ag [Sh.s, Sh.s]) (O.t 3)))), (I.mk none none false (X.store (Sh.ag [Sh.s, Sh.s]) (O.t 2) (O.t 14)))] []) AC.ret)
def A73_8 : AC := (AC.block 0 (AC.loop A73_1))
def A73_7 : AC := (AC.seq (AC.seq (AC.reg [] [(I.mk (some 4) none false (X.v (A.mov (O.k (V.int IntKind.i64 (Int.ofNat 0))))))] []) A73_8) A73_5)
def A73_6 : AC := (AC.seq (AC.reg [.clr [3]] [(I.mk (some 3) none false (X.alloc (V.agg [(V.int IntKind.i64 (Int.ofNat 0)), (V.int IntKind.i64 (Int.ofNat 0))])))] []) A73_7)
def A73 : AC := (AC.seq (AC.reg [.clr [1, 2]] [(I.mk (some 1) none false (X.box (O.t 0))), (I.mk (some 2) none false (X.alloc (V.agg [(V.int IntKind.i64 (Int.ofNat 0)), (V.int IntKind.i64 (Int.ofNat 0))])))] []) A73_6)
def an73 : List An := [{ id := 0, pre := [.clr [1, 2]], ep := [], lin := [], sp := [] }, { id := 1, pre := [.clr [3]], ep := [], lin := [], sp := [] }]
theorem c73 : cC Try.prog Try.f73.ntmps an73 (Try.f73.body.getD .skip) = some A73 := by kernel_rfl
structure H73 (D : Den) (σ : Sig) (F : Nat) : Prop where
  mk ::
abbrev R73 (r : (Int × Int)) : (Nat → V) → Prop := RR Try.prog [.cell 2 98] 0 false (Enc.enc (r : (Int × Int)))
section
variable {D : Den} {σ : Sig} {F : Nat} {r : (Int × Int)}
def w_toIntA2_l1 (F : Nat) (a_1 : (Int × Int))  : Nat → Int → Int → Int → Option (Int × Int)
  | 0, _, _, _ => none
  | k + 1, out_2, i_3, out_6 =>
    bif decide (i_3 < 2) then
      (idx [a_1.1, a_1.2] i_3).bind fun e_9 =>
      (idx [out_2, out_6] i_3).bind fun e_10 =>
      (w_toIntA2_l1 F a_1 k) (bif i_3 == 0 then e_9 else out_2) (w64 (i_3 + 1)) (bif i_3 == 1 then e_9 else out_6)
    else
      some (out_2, out_6)
theorem t_f73_l1 (H : H73 D σ F) (a_1 : (Int × Int))  : ∀ (k : Nat) (out_2 : Int) (i_3 : Int) (out_6 : Int) (s : Nat → V), Facts [(1, (.ref (.bx 1) 0 [] (.agg [(.int .i64 a_1.1), (.int .i64 a_1.2)]))), (2, (.ref (.bx 2) 0 [] (.agg [(.int .i64 0), (.int .i64 0)]))), (3, (.ref (.bx 3) 0 [] (.agg [(.int .i64 out_2), (.int .i64 out_6)]))), (4, (.int .i64 i_3))] s → w_toIntA2_l1 F a_1 k out_2 i_3 out_6 = some r → Run D σ (R73 r) (.run A73_1 [.lp A73_1, .bk 0, .sq A73_5]) s := by
  intro k
  induction k with
  | zero => intro out_2 i_3 out_6 s _ h; exact nomatch (h : (none : Option _) = some r)
  | succ k ih =>
    intro out_2 i_3 out_6 s hs h
    rw [w_toIntA2_l1] at h
    obtain ⟨h1, h2, h3, h4⟩ := hs
    refine .seq ?_
    refine .seq ?_
    refine run_reg ?_
    refine e_end ?_
    refine g_v1 (t := 4) (u := (.int .i64 i_3)) (.int .i64 i_3) h4 rfl rfl ?_
    refine g_v1 (t := 5) (u := (.int .i64 i_3)) (.bool (decide (i_3 < 2))) rfl rfl rfl ?_
    refine g_end ?_
    refine e_end ?_
    refine renew [(1, (.ref (.bx 1) 0 [] (.agg [(.int .i64 a_1.1), (.int .i64 a_1.2)]))), (2, (.ref (.bx 2) 0 [] (.agg [(.int .i64 0), (.int .i64 0)]))), (3, (.ref (.bx 3) 0 [] (.agg [(.int .i64 out_2), (.int .i64 out_6)]))), (4, (.int .i64 i_3)), (6, (.bool (decide (i_3 < 2))))] ⟨h1, h2, h3, h4, rfl⟩ ?_
    rintro s ⟨h1, h2, h3, h4, h6⟩
    refine .nsq ?_
    refine run_cond (t := decide (i_3 < 2)) h6 h (fun h => ?_) (fun h => ?_)
    · refine .skip ?_
      refine .nsq ?_
      refine .seq ?_
      refine .block ?_
      refine run_reg ?_
      refine e_end ?_
      refine g_v1 (t := 4) (u := (.int .i64 i_3)) (.int .i64 i_3) h4 rfl rfl ?_
      refine g_v1 (t := 4) (u := (.int .i64 i_3)) (.int .i64 i_3) h4 rfl rfl ?_
      obtain ⟨e_9, E_e_9, h⟩ := bind_some h
      refine g_v (.ref (.bx 1) 0 [i_3.toNat] (.int .i64 e_9)) (ev_idxA (xs := [a_1.1, a_1.2]) (a := e_9) (n := i_3) (q := []) h1 rfl E_e_9 rfl rfl rfl) ?_
      refine g_v1 (t := 11) (u := (.ref (.bx 1) 0 [i_3.toNat] (.int .i64 e_9))) (.int .i64 e_9) rfl rfl rfl ?_
      obtain ⟨e_10, E_e_10, h⟩ := bind_some h
      refine g_v (.ref (.bx 3) 0 [i_3.toNat] (.int .i64 e_10)) (ev_idxA (xs := [out_2, out_6]) (a := e_10) (n := i_3) (q := []) h3 rfl E_e_10 rfl rfl rfl) ?_
      refine g_store (.int .i64 e_9) (rd_of rfl rfl) (rd_of rfl rfl) (by refine ⟨by decide, by decide, rfl, rfl, rfl, ?_⟩; first | rfl | simp [V.toks, V.tokss, Enc.toks_enc]) ?_
      refine g_end ?_
      refine e_end ?_
      refine renew [(1, (.ref (.bx 1) 0 [] (.agg [(.int .i64 a_1.1), (.int .i64 a_1.2)]))), (2, (.ref (.bx 2) 0 [] (.agg [(.int .i64 0), (.int .i64 0)]))), (3, (.ref (.bx 3) 0 [] (.agg [(.int .i64 (bif i_3 == 0 then e_9 else out_2)), (.int .i64 (bif i_3 == 1 then e_9 else out_6))]))), (4, (.int .i64 i_3))] ⟨(keep_mut h1 rfl), (keep_mut h2 rfl), (keep_mut h3 (mut_ix2 E_e_10 rfl)), (keep_mut h4 rfl)⟩ ?_
      rintro s ⟨h1, h2, h3, h4⟩
      refine .nbk ?_
      refine .nsq ?_
      refine run_reg ?_
      refine e_end ?_
      refine g_v1 (t := 4) (u := (.int .i64 i_3)) (.int .i64 i_3) h4 rfl rfl ?_
      refine g_v1 (t := 7) (u := (.int .i64 i_3)) (.int .i64 (w64 (i_3 + 1))) rfl rfl rfl ?_
      refine g_v1 (t := 8) (u := (.int .i64 (w64 (i_3 + 1)))) (.int .i64 (w64 (i_3 + 1))) rfl rfl rfl ?_
      refine g_end ?_
      refine e_end ?_
      refine renew [(1, (.ref (.bx 1) 0 [] (.agg [(.int .i64 a_1.1), (.int .i64 a_1.2)]))), (2, (.ref (.bx 2) 0 [] (.agg [(.int .i64 0), (.int .i64 0)]))), (3, (.ref (.bx 3) 0 [] (.agg [(.int .i64 (bif i_3 == 0 then e_9 else out_2)), (.int .i64 (bif i_3 == 1 then e_9 else out_6))]))), (4, (.int .i64 (w64 (i_3 + 1))))] ⟨h1, h2, h3, rfl⟩ ?_
      rintro s ⟨h1, h2, h3, h4⟩
      refine .nlp ?_
      exact ih (bif i_3 == 0 then e_9 else out_2) (w64 (i_3 + 1)) (bif i_3 == 1 then e_9 else out_6) _ ⟨h1, h2, h3, h4⟩ h
    · refine .exit ?_
      refine .esq ?_
      refine .elp ?_
      refine .ebk ?_
      refine .nsq ?_
      refine .seq ?_
      refine run_reg ?_
      refine e_end ?_
      refine g_v1 (t := 3) (u := (.ref (.bx 3) 0 [] (.agg [(.int .i64 out_2), (.int .i64 out_6)]))) (.agg [(.int .i64 out_2), (.int .i64 out_6)]) h3 rfl rfl ?_
      refine g_store (.agg [(.int .i64 out_2), (.int .i64 out_6)]) (rd_of h2 rfl) (rd_of rfl rfl) (by refine ⟨by decide, by decide, rfl, rfl, rfl, ?_⟩; first | rfl | simp [V.toks, V.tokss, Enc.toks_enc]) ?_
      refine g_end ?_
      refine e_end ?_
      refine renew [(2, (.ref (.bx 2) 0 [] (.agg [(.int .i64 out_2), (.int .i64 out_6)])))] (keep_mut h2 rfl) ?_
      rintro s h2
      refine .nsq ?_
      refine .ret ?_
      have hr := Option.some.inj h
      subst hr
      exact rrA (res_cell h2 (by kernel_rfl)) rfl
def w_toIntA2 (F : Nat) (a_1 : (Int × Int)) : Option (Int × Int) :=
  w_toIntA2_l1 F a_1 F 0 0 0
theorem t73 (H : H73 D σ F) (a_1 : (Int × Int)) (s : Nat → V) (hs : Facts [(0, (.agg [(.int .i64 a_1.1), (.int .i64 a_1.2)]))] s) (h : w_toIntA2 F a_1 = some r) : Run D σ (R73 r) (.run A73 []) s := by
  unfold w_toIntA2 at h
  have h0 := hs
  refine .seq ?_
  refine run_reg ?_
  refine e_clr ?_
  refine e_end ?_
  refine g_box (.agg [(.int .i64 a_1.1), (.int .i64 a_1.2)]) (rd_of (keep_clear (s := s) (pk := [1, 2]) h0 rfl (map_agg (maps_cons rfl (maps_cons rfl maps_nil)))) rfl) (gone_clear (s := s) (pk := [1, 2]) (t := 1) rfl) rfl ?_
  refine g_alloc (gone_clear (s := s) (pk := [1, 2]) (t := 2) rfl) ?_
  refine g_end ?_
  refine e_end ?_
  refine renew [(1, (.ref (.bx 1) 0 [] (.agg [(.int .i64 a_1.1), (.int .i64 a_1.2)]))), (2, (.ref (.bx 2) 0 [] (.agg [(.int .i64 0), (.int .i64 0)])))] ⟨rfl, rfl⟩ ?_
  rintro s ⟨h1, h2⟩
  refine .nsq ?_
  refine .seq ?_
  refine run_reg ?_
  refine e_clr ?_
  refine e_end ?_
  refine g_alloc (gone_clear (s := s) (pk := [3]) (t := 3) rfl) ?_
  refine g_end ?_
  refine e_end ?_
  refine renew [(1, (.ref (.bx 1) 0 [] (.agg [(.int .i64 a_1.1), (.int .i64 a_1.2)]))), (2, (.ref (.bx 2) 0 [] (.agg [(.int .i64 0), (.int .i64 0)]))), (3, (.ref (.bx 3) 0 [] (.agg [(.int .i64 0), (.int .i64 0)])))] ⟨(keep_clear (s := s) (pk := [3]) h1 rfl (map_bx rfl (map_agg (maps_cons rfl (maps_cons rfl maps_nil))))), (keep_clear (s := s) (pk := [3]) h2 rfl (map_bx rfl (map_agg (maps_cons rfl (maps_cons rfl maps_nil))))), rfl⟩ ?_
  rintro s ⟨h1, h2, h3⟩
  refine .nsq ?_
  refine .seq ?_
  refine .seq ?_
  refine run_reg ?_
  refine e_end ?_
  refine g_v0 (.int .i64 0) rfl rfl ?_
  refine g_end ?_
  refine e_end ?_
  refine renew [(1, (.ref (.bx 1) 0 [] (.agg [(.int .i64 a_1.1), (.int .i64 a_1.2)]))), (2, (.ref (.bx 2) 0 [] (.agg [(.int .i64 0), (.int .i64 0)]))), (3, (.ref (.bx 3) 0 [] (.agg [(.int .i64 0), (.int .i64 0)]))), (4, (.int .i64 0))] ⟨h1, h2, h3, rfl⟩ ?_
  rintro s ⟨h1, h2, h3, h4⟩
  refine .nsq ?_
  refine .block ?_
  refine .loop ?_
  exact t_f73_l1 H a_1 F 0 0 0 _ ⟨h1, h2, h3, h4⟩ h
end
def e73 (F : Nat) : Ent := ⟨73, da (fun (x : ((Int × Int) × Unit)) => w_toIntA2 F x.1) (fun (r : (Int × Int)) => (Enc.enc (r : (Int × Int)))), 0, false, selF []⟩
theorem p73 {F : Nat} {x0 : (Int × Int)} {r : (Int × Int)} (h : w_toIntA2 F x0 = some r) : (e73 F).den [Enc.enc x0] = some (Enc.enc (r : (Int × Int))) := da_put (f := fun (x : ((Int × Int) × Unit)) => w_toIntA2 F x.1) (t := fun (r : (Int × Int)) => (Enc.enc (r : (Int × Int)))) (x0, ()) h
theorem o73 {D : Den} {σ : Sig} {F : Nat} (hF : Fits2 Try.prog D σ) (H : H73 D σ F) : (e73 F).Ok Try.prog := by
  refine ⟨fun args r h => ?_, ⟨Try.f73, Try.func73, rfl, rfl⟩⟩
  obtain ⟨⟨x0, _⟩, y, rfl, hy, rfl⟩ := da_open h
  exact contract_run hF (by kernel_rfl) Try.func73 rfl c73 (show 1 ≤ Try.f73.ntmps by decide) (t73 H x0 _ rfl hy)
/- loop.example/g01109/laws.toIntA2S -/
def A46_2 : AC := (AC.cond (O.t 11) AC.skip (AC.exit 0))
def A46_4 : AC := (AC.reg [] [(I.mk (some 12) none false (X.v (A.mov (O.t 4)))), (I.mk (some 13) none false (X.v (A.bin BinOp.add (O.t 12) (O.k (V.int IntKind.i64 (Int.ofNat 1)))))), (I.mk (some 4) none false (X.v (A.mov (O.t 13))))] [])
def A46_3 : AC := (AC.seq (AC.block 1 (AC.reg [] [(I.mk (some 14) none false (X.v (A.mov (O.t 3)))), (I.mk (some 15) none false (X.v (A.mov (O.t 4)))), (I.mk (some 16) none false (X.v (A.mov (O.t 0)))), (I.mk (some 17) none false (X.v (A.mov (O.t 4)))), (I.mk (some 18) none false (X.v (A.idx (O.t 16) (O.t 17) 2))), (I.mk (some 19) none false (X.v (A.load (Sh.ag [Sh.s, Sh.s]) (O.t 18)))), (I.mk (some 20) none false (X.call (O.k (V.fn 73 [] [])) [(O.t 19)])), (I.mk (some 21) none false (X.v (A.idx (O.t 14) (O.t 15) 2))), (I.mk none none false (X.store (Sh.ag [Sh.s, Sh.s]) (O.t 21) (O.t 20)))] [])) A46_4)
def A46_1 : AC := (AC.seq (AC.seq (AC.reg [] [(I.mk (some 8) none false (X.v (A.mov (O.t 4)))), (I.mk (some 9) none false (X.v (A.mov (O.t 0)))), (I.mk (some 10) none false (X.v (A.len (O.t 9)))), (I.mk (some 11) none false (X.v (A.bin BinOp.lss (O.t 8) (O.t 10))))] []) A46_2) A46_3)
def A46_5 : AC := (AC.seq (AC.reg [] [(I.mk (some 22) none false (X.v (A.mov (O.t 3)))), (I.mk (some 2) none false (X.v (A.mov (O.t 22))))] [.home 3 2]) AC.ret)
def A46_8 : AC := (AC.block 0 (AC.loop A46_1))
def A46_7 : AC := (AC.seq (AC.seq (AC.reg [] [(I.mk (some 4) none false (X.v (A.mov (O.k (V.int IntKind.i64 (Int.ofNat 0))))))] []) A46_8) A46_5)
def A46_6 : AC := (AC.seq (AC.reg [.clr [7]] [(I.mk (some 5) none false (X.v (A.mov (O.t 0)))), (I.mk (some 6) none false (X.v (A.len (O.t 5)))), (I.mk (some 7) none false (X.mk (O.t 6) (V.agg [(V.int IntKind.i64 (Int.ofNat 0)), (V.int IntKind.i64 (Int.ofNat 0))]))), (I.mk (some 3) none false (X.v (A.mov (O.t 7))))] [.home 7 3]) A46_7)
def A46 : AC := (AC.seq (AC.reg [] [(I.mk (some 2) none false (X.v (A.mov (O.k (V.sl Tok.nl (Sh.ag [Sh.s, Sh.s]) 0 [])))))] []) A46_6)
def an46 : List An := [{ id := 1, pre := [.clr [7]], ep := [.home 7 3], lin := [], sp := [] }, { id := 6, pre := [], ep := [.home 3 2], lin := [], sp := [] }]
theorem c46 : cC Try.prog Try.f46.ntmps an46 (Try.f46.body.getD .skip) = some A46 := by kernel_rfl
structure H46 (D : Den) (σ : Sig) (F : Nat) : Prop where
  c73 : ∀ (x0 : (Int × Int)) r, w_toIntA2 F x0 = some r → D 73 [Enc.enc x0] = some (Enc.enc (r : (Int × Int)))
  g73 : σ 73 = some (0, false)
abbrev R46 (r : (List (Int × Int))) : (Nat → V) → Prop := RR Try.prog [.tmp 2] 0 false (Enc.enc (r : (List (Int × Int))))
section
variable {D : Den} {σ : Sig} {F : Nat} {r : (List (Int × Int))}
def w_toIntA2S_l1 (F : Nat) (a_1 : (List (Int × Int)))  : Nat → (List (Int × Int)) → Int → Option (List (Int × Int))
  | 0, _, _ => none
  | k + 1, out_6, i_7 =>
    bif decide (i_7 < (a_1.length : Int)) then
      (idx a_1 i_7).bind fun e_11 =>
      (w_toIntA2 F e_11).bind fun r_12 =>
      (idx out_6 i_7).bind fun e_13 =>
      (w_toIntA2S_l1 F a_1 k) (out_6.set i_7.toNat r_12) (w64 (i_7 + 1))
    else
      some out_6
theorem t_f46_l1 (H : H46 D σ F) (a_1 : (List (Int × Int)))  : ∀ (k : Nat) (out_6 : (List (Int × Int))) (i_7 : Int) (s : Nat → V), Facts [(0, (Enc.enc (a_1 : List (Int × Int)))), (2, (.sl .nl (Enc.shp (Int × Int)) 0 [])), (3, (encO (.at 3 []) (.of (out_6 : List (Int × Int))))), (4, (.int .i64 i_7))] s → w_toIntA2S_l1 F a_1 k out_6 i_7 = some r → Run D σ (R46 r) (.run A46_1 [.lp A46_1, .bk 0, .sq A46_5]) s := by
  intro k
  induction k with
  | zero => intro out_6 i_7 s _ h; exact nomatch (h : (none : Option _) = some r)
  | succ k ih =>
    intro out_6 i_7 s hs h
    rw [w_toIntA2S_l1] at h
    obtain ⟨h0, h2, h3, h4⟩ := hs
    refine .seq ?_
    refine .seq ?_
    refine run_reg ?_
    refine e_end ?_
    refine g_v1 (t := 4) (u := (.int .i64 i_7)) (.int .i64 i_7) h4 rfl rfl ?_
    refine g_v1 (t := 0) (u := (Enc.enc (a_1 : List (Int × Int)))) (Enc.enc (a_1 : List (Int × Int))) h0 rfl rfl ?_
    refine g_v (.int .i64 (a_1.length : Int)) (ev_len (xs := a_1) rfl) ?_
    refine g_v2 (t1 := 8) (t2 := 10) (u1 := (.int .i64 i_7)) (u2 := (.int .i64 (a_1.length : Int))) (.bool (decide (i_7 < (a_1.length : Int)))) rfl rfl rfl rfl ?_
    refine g_end ?_
    refine e_end ?_
    refine renew [(0, (Enc.enc (a_1 : List (Int × Int)))), (2, (.sl .nl (Enc.shp (Int × Int)) 0 [])), (3, (encO (.at 3 []) (.of (out_6 : List (Int × Int))))), (4, (.int .i64 i_7)), (11, (.bool (decide (i_7 < (a_1.length : Int)))))] ⟨h0, h2, h3, h4, rfl⟩ ?_
    rintro s ⟨h0, h2, h3, h4, h11⟩
    refine .nsq ?_
    refine run_cond (t := decide (i_7 < (a_1.length : Int))) h11 h (fun h => ?_) (fun h => ?_)
    · refine .skip ?_
      refine .nsq ?_
      refine .seq ?_
      refine .block ?_
      refine run_reg ?_
      refine e_end ?_
      refine g_v1 (t := 3) (u := (encO (.at 3 []) (.of (out_6 : List (Int × Int))))) (encO (.at 3 []) (.of (out_6 : List (Int × Int)))) h3 rfl rfl ?_
      refine g_v1 (t := 4) (u := (.int .i64 i_7)) (.int .i64 i_7) h4 rfl rfl ?_
      refine g_v1 (t := 0) (u := (Enc.enc (a_1 : List (Int × Int)))) (Enc.enc (a_1 : List (Int × Int))) h0 rfl rfl ?_
      refine g_v1 (t := 4) (u := (.int .i64 i_7)) (.int .i64 i_7) h4 rfl rfl ?_
      obtain ⟨e_11, E_e_11, h⟩ := bind_some h
      refine g_v (.ref .sh 0 [] (.agg [(.int .i64 e_11.1), (.int .i64 e_11.2)])) (ev_idx (t := .sh) (lo := 0) (xs := a_1) rfl rfl E_e_11 rfl rfl) ?_
      refine g_v1 (t := 18) (u := (.ref .sh 0 [] (.agg [(.int .i64 e_11.1), (.int .i64 e_11.2)]))) (.agg [(.int .i64 e_11.1), (.int .i64 e_11.2)]) rfl rfl rfl ?_
      obtain ⟨r_12, E_r_12, h⟩ := bind_some h
      refine g_call (m := 0) (al := false) (r := (Enc.enc (r_12 : (Int × Int)))) [Enc.enc (e_11 : (Int × Int))] (ta_cons (v := (.agg [(.int .i64 e_11.1), (.int .i64 e_11.2)])) rfl rfl (Enc.erase_enc (e_11 : (Int × Int))) ta_nil) (H.c73 _ _ E_r_12) H.g73 rfl rfl rfl rfl ?_
      obtain ⟨e_13, E_e_13, h⟩ := bind_some h
      refine g_v (.ref (.at 3 []) i_7.toNat [] (.agg [(.int .i64 e_13.1), (.int .i64 e_13.2)])) (ev_idxO (o := (.of out_6)) rfl rfl E_e_13 rfl) ?_
      refine g_store (.agg [(.int .i64 r_12.1), (.int .i64 r_12.2)]) (rd_of rfl rfl) (rd_of rfl rfl) (by refine ⟨by decide, by decide, rfl, rfl, rfl, ?_⟩; first | rfl | simp [V.toks, V.tokss, Enc.toks_enc]) ?_
      refine g_end ?_
      refine e_end ?_
      refine renew [(0, (Enc.enc (a_1 : List (Int × Int)))), (2, (.sl .nl (Enc.shp (Int × Int)) 0 [])), (3, (encO (.at 3 []) (.of (out_6.set i_7.toNat r_12 : List (Int × Int))))), (4, (.int .i64 i_7))] ⟨(keep_mut h0 (Enc.mut_enc _ _ _ _ (a_1 : List (Int × Int)))), (keep_mut h2 rfl), (keep_mut h3 mut_own), (keep_mut h4 rfl)⟩ ?_
      rintro s ⟨h0, h2, h3, h4⟩
      refine .nbk ?_
      refine .nsq ?_
      refine run_reg ?_
      refine e_end ?_
      refine g_v1 (t := 4) (u := (.int .i64 i_7)) (.int .i64 i_7) h4 rfl rfl ?_
      refine g_v1 (t := 12) (u := (.int .i64 i_7)) (.int .i64 (w64 (i_7 + 1))) rfl rfl rfl ?_
      refine g_v1 (t := 13) (u := (.int .i64 (w64 (i_7 + 1)))) (.int .i64 (w64 (i_7 + 1))) rfl rfl rfl ?_
      refine g_end ?_
      refine e_end ?_
      refine renew [(0, (Enc.enc (a_1 : List (Int × Int)))), (2, (.sl .nl (Enc.shp (Int × Int)) 0 [])), (3, (encO (.at 3 []) (.of (out_6.set i_7.toNat r_12 : List (Int × Int))))), (4, (.int .i64 (w64 (i_7 + 1))))] ⟨h0, h2, h3, rfl⟩ ?_
      rintro s ⟨h0, h2, h3, h4⟩
      refine .nlp ?_
      exact ih (out_6.set i_7.toNat r_12) (w64 (i_7 + 1)) _ ⟨h0, h2, h3, h4⟩ h
    · refine .exit ?_
      refine .esq ?_
      refine .elp ?_
      refine .ebk ?_
      refine .nsq ?_
      refine .seq ?_
      refine run_reg ?_
      refine e_end ?_
      refine g_v1 (t := 3) (u := (encO (.at 3 []) (.of (out_6 : List (Int × Int))))) (encO (.at 3 []) (.of (out_6 : List (Int × Int)))) h3 rfl rfl ?_
      refine g_v1 (t := 22) (u := (encO (.at 3 []) (.of (out_6 : List (Int × Int))))) (encO (.at 3 []) (.of (out_6 : List (Int × Int)))) rfl rfl rfl ?_
      refine g_end ?_
      refine e_home (r := 3) (x := 2) (v := (encO (.at 3 []) (.of (out_6 : List (Int × Int))))) (by exact rfl) rfl (fun s_3 hg_3 => ?_)
      refine e_end ?_
      refine renew [(2, (encO (.at 2 []) (.of (out_6 : List (Int × Int)))))] (hg_3 2 (encO (.at 3 []) (.of (out_6 : List (Int × Int)))) (encO (.at 2 []) (.of (out_6 : List (Int × Int)))) rfl (map_encO (r := 3) (p := []) rfl rfl)) ?_
      rintro s h2
      refine .nsq ?_
      refine .ret ?_
      have hr := Option.some.inj h
      subst hr
      exact rrA (res_tmp h2) (fin_retF (fin_own (o := .of out_6)) (mine_own rfl))
def w_toIntA2S (F : Nat) (a_1 : (List (Int × Int))) : Option (List (Int × Int)) :=
  (mkN (a_1.length : Int) (0, 0)).bind fun mk_2 =>
  w_toIntA2S_l1 F a_1 F mk_2 0
theorem t46 (H : H46 D σ F) (a_1 : (List (Int × Int))) (s : Nat → V) (hs : Facts [(0, (Enc.enc (a_1 : List (Int × Int))))] s) (h : w_toIntA2S F a_1 = some r) : Run D σ (R46 r) (.run A46 []) s := by
  unfold w_toIntA2S at h
  have h0 := hs
  refine .seq ?_
  refine run_reg ?_
  refine e_end ?_
  refine g_v0 (.sl .nl (Enc.shp (Int × Int)) 0 []) rfl rfl ?_
  refine g_end ?_
  refine e_end ?_
  refine renew [(0, (Enc.enc (a_1 : List (Int × Int)))), (2, (.sl .nl (Enc.shp (Int × Int)) 0 []))] ⟨h0, rfl⟩ ?_
  rintro s ⟨h0, h2⟩
  refine .nsq ?_
  refine .seq ?_
  refine run_reg ?_
  refine e_clr ?_
  refine e_end ?_
  refine g_v1 (t := 0) (u := (Enc.enc (a_1 : List (Int × Int)))) (Enc.enc (a_1 : List (Int × Int))) (keep_clear (s := s) (pk := [7]) h0 rfl (Enc.map_enc _ (a_1 : List (Int × Int)))) rfl rfl ?_
  refine g_v (.int .i64 (a_1.length : Int)) (ev_len (xs := a_1) rfl) ?_
  obtain ⟨mk_2, E_mk_2, h⟩ := bind_some h
  refine g_mk ((0, 0) : (Int × Int)) rfl rfl (gone_clear (s := s) (pk := [7]) (t := 7) rfl) E_mk_2 ?_
  refine g_v1 (t := 7) (u := (encO (.at 7 []) (.of (mk_2 : List (Int × Int))))) (encO (.at 7 []) (.of (mk_2 : List (Int × Int)))) rfl rfl rfl ?_
  refine g_end ?_
  refine e_home (r := 7) (x := 3) (v := (encO (.at 7 []) (.of (mk_2 : List (Int × Int))))) (by exact rfl) rfl (fun s_2 hg_2 => ?_)
  refine e_end ?_
  refine renew [(0, (Enc.enc (a_1 : List (Int × Int)))), (2, (.sl .nl (Enc.shp (Int × Int)) 0 [])), (3, (encO (.at 3 []) (.of (mk_2 : List (Int × Int)))))] ⟨(hg_2 0 (Enc.enc (a_1 : List (Int × Int))) (Enc.enc (a_1 : List (Int × Int))) (keep_clear (s := s) (pk := [7]) h0 rfl (Enc.map_enc _ (a_1 : List (Int × Int)))) (Enc.map_enc _ (a_1 : List (Int × Int)))), (hg_2 2 (.sl .nl (Enc.shp (Int × Int)) 0 []) (.sl .nl (Enc.shp (Int × Int)) 0 []) (keep_clear (s := s) (pk := [7]) h2 rfl rfl) rfl), (hg_2 3 (encO (.at 7 []) (.of (mk_2 : List (Int × Int)))) (encO (.at 3 []) (.of (mk_2 : List (Int × Int)))) rfl (map_encO (r := 7) (p := []) rfl rfl))⟩ ?_
  rintro s ⟨h0, h2, h3⟩
  refine .nsq ?_
  refine .seq ?_
  refine .seq ?_
  refine run_reg ?_
  refine e_end ?_
  refine g_v0 (.int .i64 0) rfl rfl ?_
  refine g_end ?_
  refine e_end ?_
  refine renew [(0, (Enc.enc (a_1 : List (Int × Int)))), (2, (.sl .nl (Enc.shp (Int × Int)) 0 [])), (3, (encO (.at 3 []) (.of (mk_2 : List (Int × Int))))), (4, (.int .i64 0))] ⟨h0, h2, h3, rfl⟩ ?_
  rintro s ⟨h0, h2, h3, h4⟩
  refine .nsq ?_
  refine .block ?_
  refine .loop ?_
  exact t_f46_l1 H a_1 F mk_2 0 _ ⟨h0, h2, h3, h4⟩ h
end
def e46 (F : Nat) : Ent := ⟨46, da (fun (x : ((List (Int × Int)) × Unit)) => w_toIntA2S F x.1) (fun (r : (List (Int × Int))) => (Enc.enc (r : (List (Int × Int))))), 0, false, selF []⟩
theorem p46 {F : Nat} {x0 : (List (Int × Int))} {r : (List (Int × Int))} (h : w_toIntA2S F x0 = some r) : (e46 F).den [Enc.enc x0] = some (Enc.enc (r : (List (Int × Int)))) := da_put (f := fun (x : ((List (Int × Int)) × Unit)) => w_toIntA2S F x.1) (t := fun (r : (List (Int × Int))) => (Enc.enc (r : (List (Int × Int))))) (x0, ()) h
theorem o46 {D : Den} {σ : Sig} {F : Nat} (hF : Fits2 Try.prog D σ) (H : H46 D σ F) : (e46 F).Ok Try.prog := by
  refine ⟨fun args r h => ?_, ⟨Try.f46, Try.func46, rfl, rfl⟩⟩
  obtain ⟨⟨x0, _⟩, y, rfl, hy, rfl⟩ := da_open h
  exact contract_run hF (by kernel_rfl) Try.func46 rfl c46 (show 1 ≤ Try.f46.ntmps by decide) (t46 H x0 _ rfl hy)
/- loop.example/g01109/laws.toGraph -/
def A13_4 : AC := (AC.seq (AC.reg [] [(I.mk (some 11) none false (X.v (A.load (Sh.ag [Sh.s, Sh.p]) (O.t 3)))), (I.mk none none false (X.store (Sh.ag [Sh.s, Sh.p]) (O.t 2) (O.t 11)))] []) AC.ret)
def A13_3 : AC := (AC.seq (AC.reg [] [(I.mk (some 7) none false (X.v (A.fld (O.t 1) 1 1))), (I.mk (some 8) none false (X.v (A.load Sh.p (O.t 7)))), (I.mk (some 9) none false (X.call (O.k (V.fn 46 [] [])) [(O.t 8)])), (I.mk (some 10) none false (X.v (A.fld (O.t 3) 1 1))), (I.mk none none false (X.store Sh.p (O.t 10) (O.t 9)))] []) A13_4)
def A13_2 : AC := (AC.seq (AC.reg [] [(I.mk (some 4) none false (X.v (A.fld (O.t 1) 0 0))), (I.mk (some 5) none false (X.v (A.load Sh.s (O.t 4)))), (I.mk (some 6) none false (X.v (A.fld (O.t 3) 0 0))), (I.mk none none false (X.store Sh.s (O.t 6) (O.t 5)))] []) A13_3)
def A13_1 : AC := (AC.seq (AC.reg [.clr [3]] [(I.mk (some 3) none false (X.alloc (V.agg [(V.int IntKind.i64 (Int.ofNat 0)), (V.sl Tok.nl (Sh.ag [Sh.s, Sh.s]) 0 [])])))] []) A13_2)
def A13 : AC := (AC.seq (AC.reg [.clr [1, 2]] [(I.mk (some 1) none false (X.box (O.t 0))), (I.mk (some 2) none false (X.alloc (V.agg [(V.int IntKind.i64 (Int.ofNat 0)), (V.sl Tok.nl (Sh.ag [Sh.s, Sh.s]) 0 [])])))] []) A13_1)
def an13 : List An := [{ id := 0, pre := [.clr [1, 2]], ep := [], lin := [], sp := [] }, { id := 1, pre := [.clr [3]], ep := [], lin := [], sp := [] }]
theorem c13 : cC Try.prog Try.f13.ntmps an13 (Try.f13.body.getD .skip) = some A13 := by kernel_rfl
structure H13 (D : Den) (σ : Sig) (F : Nat) : Prop where
  c46 : ∀ (x0 : (List (Int × Int))) r, w_toIntA2S F x0 = some r → D 46 [Enc.enc x0] = some (Enc.enc (r : (List (Int × Int))))
  g46 : σ 46 = some (0, false)
abbrev R13 (r : (Int × (List (Int × Int)))) : (Nat → V) → Prop := RR Try.prog [.cell 2 29] 0 true (Enc.enc (r : (Int × (List (Int × Int)))))
section
variable {D : Den} {σ : Sig} {F : Nat} {r : (Int × (List (Int × Int)))}
def w_toGraph (F : Nat) (a_1 : (Int × (List (Int × Int)))) : Option (Int × (List (Int × Int))) :=
  (w_toIntA2S F a_1.2).bind fun r_2 =>
  some (a_1.1, r_2)
theorem t13 (H : H13 D σ F) (a_1 : (Int × (List (Int × Int)))) (s : Nat → V) (hs : Facts [(0, (.agg [(.int .i64 a_1.1), (Enc.enc (a_1.2 : List (Int × Int)))]))] s) (h : w_toGraph F a_1 = some r) : Run D σ (R13 r) (.run A13 []) s := by
  unfold w_toGraph at h
  have h0 := hs
  refine .seq ?_
  refine run_reg ?_
  refine e_clr ?_
  refine e_end ?_
  refine g_box (.agg [(.int .i64 a_1.1), (Enc.enc (a_1.2 : List (Int × Int)))]) (rd_of (keep_clear (s := s) (pk := [1, 2]) h0 rfl (map_agg (maps_cons rfl (maps_cons (Enc.map_enc _ (a_1.2 : List (Int × Int))) maps_nil)))) rfl) (gone_clear (s := s) (pk := [1, 2]) (t := 1) rfl) rfl ?_
  refine g_alloc (gone_clear (s := s) (pk := [1, 2]) (t := 2) rfl) ?_
  refine g_end ?_
  refine e_end ?_
  refine renew [(1, (.ref (.bx 1) 0 [] (.agg [(.int .i64 a_1.1), (Enc.enc (a_1.2 : List (Int × Int)))]))), (2, (.ref (.bx 2) 0 [] (.agg [(.int .i64 0), (.sl .nl (Enc.shp (Int × Int)) 0 [])])))] ⟨rfl, rfl⟩ ?_
  rintro s ⟨h1, h2⟩
  refine .nsq ?_
  refine .seq ?_
  refine run_reg ?_
  refine e_clr ?_
  refine e_end ?_
  refine g_alloc (gone_clear (s := s) (pk := [3]) (t := 3) rfl) ?_
  refine g_end ?_
  refine e_end ?_
  refine renew [(1, (.ref (.bx 1) 0 [] (.agg [(.int .i64 a_1.1), (Enc.enc (a_1.2 : List (Int × Int)))]))), (2, (.ref (.bx 2) 0 [] (.agg [(.int .i64 0), (.sl .nl (Enc.shp (Int × Int)) 0 [])]))), (3, (.ref (.bx 3) 0 [] (.agg [(.int .i64 0), (.sl .nl (Enc.shp (Int × Int)) 0 [])])))] ⟨(keep_clear (s := s) (pk := [3]) h1 rfl (map_bx rfl (map_agg (maps_cons rfl (maps_cons (Enc.map_enc _ (a_1.2 : List (Int × Int))) maps_nil))))), (keep_clear (s := s) (pk := [3]) h2 rfl (map_bx rfl (map_agg (maps_cons rfl (maps_cons rfl maps_nil))))), rfl⟩ ?_
  rintro s ⟨h1, h2, h3⟩
  refine .nsq ?_
  refine .seq ?_
  refine run_reg ?_
  refine e_end ?_
  refine g_v1 (t := 1) (u := (.ref (.bx 1) 0 [] (.agg [(.int .i64 a_1.1), (Enc.enc (a_1.2 : List (Int × Int)))]))) (.ref (.bx 1) 0 [0] (.int .i64 a_1.1)) h1 rfl rfl ?_
  refine g_v1 (t := 4) (u := (.ref (.bx 1) 0 [0] (.int .i64 a_1.1))) (.int .i64 a_1.1) rfl rfl rfl ?_
  refine g_v1 (t := 3) (u := (.ref (.bx 3) 0 [] (.agg [(.int .i64 0), (.sl .nl (Enc.shp (Int × Int)) 0 [])]))) (.ref (.bx 3) 0 [0] (.int .i64 0)) h3 rfl rfl ?_
  refine g_store (.int .i64 a_1.1) (rd_of rfl rfl) (rd_of rfl rfl) (by refine ⟨by decide, by decide, rfl, rfl, rfl, ?_⟩; first | rfl | simp [V.toks, V.tokss, Enc.toks_enc]) ?_
  refine g_end ?_
  refine e_end ?_
  refine renew [(1, (.ref (.bx 1) 0 [] (.agg [(.int .i64 a_1.1), (Enc.enc (a_1.2 : List (Int × Int)))]))), (2, (.ref (.bx 2) 0 [] (.agg [(.int .i64 0), (.sl .nl (Enc.shp (Int × Int)) 0 [])]))), (3, (.ref (.bx 3) 0 [] (.agg [(.int .i64 a_1.1), (.sl .nl (Enc.shp (Int × Int)) 0 [])])))] ⟨(keep_mut h1 (mut_ref_ne rfl rfl (mut_agg (muts_cons rfl (muts_cons (Enc.mut_enc _ _ _ _ (a_1.2 : List (Int × Int))) rfl))))), (keep_mut h2 (mut_ref_ne rfl rfl (mut_agg (muts_cons rfl (muts_cons rfl rfl))))), (keep_mut h3 rfl)⟩ ?_
  rintro s ⟨h1, h2, h3⟩
  refine .nsq ?_
  refine .seq ?_
  refine run_reg ?_
  refine e_end ?_
  refine g_v1 (t := 1) (u := (.ref (.bx 1) 0 [] (.agg [(.int .i64 a_1.1), (Enc.enc (a_1.2 : List (Int × Int)))]))) (.ref (.bx 1) 0 [1] (Enc.enc (a_1.2 : List (Int × Int)))) h1 rfl rfl ?_
  refine g_v1 (t := 7) (u := (.ref (.bx 1) 0 [1] (Enc.enc (a_1.2 : List (Int × Int))))) (Enc.enc (a_1.2 : List (Int × Int))) rfl rfl rfl ?_
  obtain ⟨r_2, E_r_2, h⟩ := bind_some h
  refine g_call (m := 0) (al := false) (r := (Enc.enc (r_2 : (List (Int × Int))))) [Enc.enc (a_1.2 : (List (Int × Int)))] (ta_cons (v := (Enc.enc (a_1.2 : List (Int × Int)))) rfl rfl (Enc.erase_enc (a_1.2 : (List (Int × Int)))) ta_nil) (H.c46 _ _ E_r_2) H.g46 rfl rfl rfl rfl ?_
  refine g_v1 (t := 3) (u := (.ref (.bx 3) 0 [] (.agg [(.int .i64 a_1.1), (.sl .nl (Enc.shp (Int × Int)) 0 [])]))) (.ref (.bx 3) 0 [1] (.sl .nl (Enc.shp (Int × Int)) 0 [])) h3 rfl rfl ?_
  refine g_store (Enc.enc (r_2 : List (Int × Int))) (rd_of rfl rfl) (rd_of rfl rfl) (by refine ⟨by decide, by decide, rfl, rfl, rfl, ?_⟩; first | rfl | simp [V.toks, V.tokss, Enc.toks_enc]) ?_
  refine g_end ?_
  refine e_end ?_
  refine renew [(2, (.ref (.bx 2) 0 [] (.agg [(.int .i64 0), (.sl .nl (Enc.shp (Int × Int)) 0 [])]))), (3, (.ref (.bx 3) 0 [] (.agg [(.int .i64 a_1.1), (Enc.enc (r_2 : List (Int × Int)))])))] ⟨(keep_mut h2 (mut_ref_ne rfl rfl (mut_agg (muts_cons rfl (muts_cons rfl rfl))))), (keep_mut h3 rfl)⟩ ?_
  rintro s ⟨h2, h3⟩
  refine .nsq ?_
  refine .seq ?_
  refine run_reg ?_
  refine e_end ?_
  refine g_v1 (t := 3) (u := (.ref (.bx 3) 0 [] (.agg [(.int .i64 a_1.1), (Enc.enc (r_2 : List (Int × Int)))]))) (.agg [(.int .i64 a_1.1), (Enc.enc (r_2 : List (Int × Int)))]) h3 rfl rfl ?_
  refine g_store (.agg [(.int .i64 a_1.1), (Enc.enc (r_2 : List (Int × Int)))]) (rd_of h2 rfl) (rd_of rfl rfl) (by refine ⟨by decide, by decide, rfl, rfl, rfl, ?_⟩; first | rfl | simp [V.toks, V.tokss, Enc.toks_enc]) ?_
  refine g_end ?_
  refine e_end ?_
  refine renew [(2, (.ref (.bx 2) 0 [] (.agg [(.int .i64 a_1.1), (Enc.enc (r_2 : List (Int × Int)))])))] (keep_mut h2 rfl) ?_
  rintro s h2
  refine .nsq ?_
  refine .ret ?_
  have hr := Option.some.inj h
  subst hr
  exact rrA (res_cell h2 (by kernel_rfl)) (fin_ret1 (fin_enc (x := ((a_1.1, r_2) : (Int × (List (Int × Int)))))))
end
def e13 (F : Nat) : Ent := ⟨13, da (fun (x : ((Int × (List (Int × Int))) × Unit)) => w_toGraph F x.1) (fun (r : (Int × (List (Int × Int)))) => (Enc.enc (r : (Int × (List (Int × Int)))))), 0, true, selF []⟩
theorem p13 {F : Nat} {x0 : (Int × (List (Int × Int)))} {r : (Int × (List (Int × Int)))} (h : w_toGraph F x0 = some r) : (e13 F).den [Enc.enc x0] = some (Enc.enc (r : (Int × (List (Int × Int))))) := da_put (f := fun (x : ((Int × (List (Int × Int))) × Unit)) => w_toGraph F x.1) (t := fun (r : (Int × (List (Int × Int)))) => (Enc.enc (r : (Int × (List (Int × Int)))))) (x0, ()) h
theorem o13 {D : Den} {σ : Sig} {F : Nat} (hF : Fits2 Try.prog D σ) (H : H13 D σ F) : (e13 F).Ok Try.prog := by
  refine ⟨fun args r h => ?_, ⟨Try.f13, Try.func13, rfl, rfl⟩⟩
  obtain ⟨⟨x0, _⟩, y, rfl, hy, rfl⟩ := da_open h
  exact contract_run hF (by kernel_rfl) Try.func13 rfl c13 (show 1 ≤ Try.f13.ntmps by decide) (t13 H x0 _ rfl hy)
/- loop.example/g01109/laws.toIntS -/
def A14_2 : AC := (AC.cond (O.t 11) AC.skip (AC.exit 0))
def A14_4 : AC := (AC.reg [] [(I.mk (some 12) none false (X.v (A.mov (O.t 4)))), (I.mk (some 13) none false (X.v (A.bin BinOp.add (O.t 12) (O.k (V.int IntKind.i64 (Int.ofNat 1)))))), (I.mk (some 4) none false (X.v (A.mov (O.t 13))))] [])
def A14_3 : AC := (AC.seq (AC.block 1 (AC.reg [] [(I.mk (some 14) none false (X.v (A.mov (O.t 3)))), (I.mk (some 15) none false (X.v (A.mov (O.t 4)))), (I.mk (some 16) none false (X.v (A.mov (O.t 0)))), (I.mk (some 17) none false (X.v (A.mov (O.t 4)))), (I.mk (some 18) none false (X.v (A.idx (O.t 16) (O.t 17) 1))), (I.mk (some 19) none false (X.v (A.load Sh.s (O.t 18)))), (I.mk (some 20) none false (X.v (A.idx (O.t 14) (O.t 15) 1))), (I.mk none none false (X.store Sh.s (O.t 20) (O.t 19)))] [])) A14_4)
def A14_1 : AC := (AC.seq (AC.seq (AC.reg [] [(I.mk (some 8) none false (X.v (A.mov (O.t 4)))), (I.mk (some 9) none false (X.v (A.mov (O.t 0)))), (I.mk (some 10) none false (X.v (A.len (O.t 9)))), (I.mk (some 11) none false (X.v (A.bin BinOp.lss (O.t 8) (O.t 10))))] []) A14_2) A14_3)
def A14_5 : AC := (AC.seq (AC.reg [] [(I.mk (some 21) none false (X.v (A.mov (O.t 3)))), (I.mk (some 2) none false (X.v (A.mov (O.t 21))))] [.home 3 2]) AC.ret)
def A14_8 : AC := (AC.block 0 (AC.loop A14_1))
def A14_7 : AC := (AC.seq (AC.seq (AC.reg [] [(I.mk (some 4) none false (X.v (A.mov (O.k (V.int IntKind.i64 (Int.ofNat 0))))))] []) A14_8) A14_5)
def A14_6 : AC := (AC.seq (AC.reg [.clr [7]] [(I.mk (some 5) none false (X.v (A.mov (O.t 0)))), (I.mk (some 6) none false (X.v (A.len (O.t 5)))), (I.mk (some 7) none false (X.mk (O.t 6) (V.int IntKind.i64 (Int.ofNat 0)))), (I.mk (some 3) none false (X.v (A.mov (O.t 7))))] [.home 7 3]) A14_7)
def A14 : AC := (AC.seq (AC.reg [] [(I.mk (some 2) none false (X.v (A.mov (O.k (V.sl Tok.nl Sh.s 0 [])))))] []) A14_6)
def an14 : List An := [{ id := 1, pre := [.clr [7]], ep := [.home 7 3], lin := [], sp := [] }, { id := 6, pre := [], ep := [.home 3 2], lin := [], sp := [] }]
theorem c14 : cC Try.prog Try.f14.ntmps an14 (Try.f14.body.getD .skip) = some A14 := by kernel_rfl
structure H14 (D : Den) (σ : Sig) (F : Nat) : Prop where
  mk ::
abbrev R14 (r : (List Int)) : (Nat → V) → Prop := RR Try.prog [.tmp 2] 0 false (Enc.enc (r : (List Int)))
section
variable {D : Den} {σ : Sig} {F : Nat} {r : (List Int)}
def w_toIntS_l1 (F : Nat) (a_1 : (List Int))  : Nat → (List Int) → Int → Option (List Int)
  | 0, _, _ => none
  | k + 1, out_5, i_6 =>
    bif decide (i_6 < (a_1.length : Int)) then
      (idx a_1 i_6).bind fun e_9 =>
      (idx out_5 i_6).bind fun e_10 =>
      (w_toIntS_l1 F a_1 k) (out_5.set i_6.toNat e_9) (w64 (i_6 + 1))
    else
      some out_5
theorem t_f14_l1 (H : H14 D σ F) (a_1 : (List Int))  : ∀ (k : Nat) (out_5 : (List Int)) (i_6 : Int) (s : Nat → V), Facts [(0, (Enc.enc (a_1 : List Int))), (2, (.sl .nl (Enc.shp Int) 0 [])), (3, (encO (.at 3 []) (.of (out_5 : List Int)))), (4, (.int .i64 i_6))] s → w_toIntS_l1 F a_1 k out_5 i_6 = some r → Run D σ (R14 r) (.run A14_1 [.lp A14_1, .bk 0, .sq A14_5]) s := by
  intro k
  induction k with
  | zero => intro out_5 i_6 s _ h; exact nomatch (h : (none : Option _) = some r)
  | succ k ih =>
    intro out_5 i_6 s hs h
    rw [w_toIntS_l1] at h
    obtain ⟨h0, h2, h3, h4⟩ := hs
    refine .seq ?_
    refine .seq ?_
    refine run_reg ?_
    refine e_end ?_
    refine g_v1 (t := 4) (u := (.int .i64 i_6)) (.int .i64 i_6) h4 rfl rfl ?_
    refine g_v1 (t := 0) (u := (Enc.enc (a_1 : List Int))) (Enc.enc (a_1 : List Int)) h0 rfl rfl ?_
    refine g_v (.int .i64 (a_1.length : Int)) (ev_len (xs := a_1) rfl) ?_
    refine g_v2 (t1 := 8) (t2 := 10) (u1 := (.int .i64 i_6)) (u2 := (.int .i64 (a_1.length : Int))) (.bool (decide (i_6 < (a_1.length : Int)))) rfl rfl rfl rfl ?_
    refine g_end ?_
    refine e_end ?_
    refine renew [(0, (Enc.enc (a_1 : List Int))), (2, (.sl .nl (Enc.shp Int) 0 [])), (3, (encO (.at 3 []) (.of (out_5 : List Int)))), (4, (.int .i64 i_6)), (11, (.bool (decide (i_6 < (a_1.length : Int)))))] ⟨h0, h2, h3, h4, rfl⟩ ?_
    rintro s ⟨h0, h2, h3, h4, h11⟩
    refine .nsq ?_
    refine run_cond (t := decide (i_6 < (a_1.length : Int))) h11 h (fun h => ?_) (fun h => ?_)
    · refine .skip ?_
      refine .nsq ?_
      refine .seq ?_
      refine .block ?_
      refine run_reg ?_
      refine e_end ?_
      refine g_v1 (t := 3) (u := (encO (.at 3 []) (.of (out_5 : List Int)))) (encO (.at 3 []) (.of (out_5 : List Int))) h3 rfl rfl ?_
      refine g_v1 (t := 4) (u := (.int .i64 i_6)) (.int .i64 i_6) h4 rfl rfl ?_
      refine g_v1 (t := 0) (u := (Enc.enc (a_1 : List Int))) (Enc.enc (a_1 : List Int)) h0 rfl rfl ?_
      refine g_v1 (t := 4) (u := (.int .i64 i_6)) (.int .i64 i_6) h4 rfl rfl ?_
      obtain ⟨e_9, E_e_9, h⟩ := bind_some h
      refine g_v (.ref .sh 0 [] (.int .i64 e_9)) (ev_idx (t := .sh) (lo := 0) (xs := a_1) rfl rfl E_e_9 rfl rfl) ?_
      refine g_v1 (t := 18) (u := (.ref .sh 0 [] (.int .i64 e_9))) (.int .i64 e_9) rfl rfl rfl ?_
      obtain ⟨e_10, E_e_10, h⟩ := bind_some h
      refine g_v (.ref (.at 3 []) i_6.toNat [] (.int .i64 e_10)) (ev_idxO (o := (.of out_5)) rfl rfl E_e_10 rfl) ?_
      refine g_store (.int .i64 e_9) (rd_of rfl rfl) (rd_of rfl rfl) (by refine ⟨by decide, by decide, rfl, rfl, rfl, ?_⟩; first | rfl | simp [V.toks, V.tokss, Enc.toks_enc]) ?_
      refine g_end ?_
      refine e_end ?_
      refine renew [(0, (Enc.enc (a_1 : List Int))), (2, (.sl .nl (Enc.shp Int) 0 [])), (3, (encO (.at 3 []) (.of (out_5.set i_6.toNat e_9 : List Int)))), (4, (.int .i64 i_6))] ⟨(keep_mut h0 (Enc.mut_enc _ _ _ _ (a_1 : List Int))), (keep_mut h2 rfl), (keep_mut h3 mut_own), (keep_mut h4 rfl)⟩ ?_
      rintro s ⟨h0, h2, h3, h4⟩
      refine .nbk ?_
      refine .nsq ?_
      refine run_reg ?_
      refine e_end ?_
      refine g_v1 (t := 4) (u := (.int .i64 i_6)) (.int .i64 i_6) h4 rfl rfl ?_
      refine g_v1 (t := 12) (u := (.int .i64 i_6)) (.int .i64 (w64 (i_6 + 1))) rfl rfl rfl ?_
      refine g_v1 (t := 13) (u := (.int .i64 (w64 (i_6 + 1)))) (.int .i64 (w64 (i_6 + 1))) rfl rfl rfl ?_
      refine g_end ?_
      refine e_end ?_
      refine renew [(0, (Enc.enc (a_1 : List Int))), (2, (.sl .nl (Enc.shp Int) 0 [])), (3, (encO (.at 3 []) (.of (out_5.set i_6.toNat e_9 : List Int)))), (4, (.int .i64 (w64 (i_6 + 1))))] ⟨h0, h2, h3, rfl⟩ ?_
      rintro s ⟨h0, h2, h3, h4⟩
      refine .nlp ?_
      exact ih (out_5.set i_6.toNat e_9) (w64 (i_6 + 1)) _ ⟨h0, h2, h3, h4⟩ h
    · refine .exit ?_
      refine .esq ?_
      refine .elp ?_
      refine .ebk ?_
      refine .nsq ?_
      refine .seq ?_
      refine run_reg ?_
      refine e_end ?_
      refine g_v1 (t := 3) (u := (encO (.at 3 []) (.of (out_5 : List Int)))) (encO (.at 3 []) (.of (out_5 : List Int))) h3 rfl rfl ?_
      refine g_v1 (t := 21) (u := (encO (.at 3 []) (.of (out_5 : List Int)))) (encO (.at 3 []) (.of (out_5 : List Int))) rfl rfl rfl ?_
      refine g_end ?_
      refine e_home (r := 3) (x := 2) (v := (encO (.at 3 []) (.of (out_5 : List Int)))) (by exact rfl) rfl (fun s_3 hg_3 => ?_)
      refine e_end ?_
      refine renew [(2, (encO (.at 2 []) (.of (out_5 : List Int))))] (hg_3 2 (encO (.at 3 []) (.of (out_5 : List Int))) (encO (.at 2 []) (.of (out_5 : List Int))) rfl (map_encO (r := 3) (p := []) rfl rfl)) ?_
      rintro s h2
      refine .nsq ?_
      refine .ret ?_
      have hr := Option.some.inj h
      subst hr
      exact rrA (res_tmp h2) (fin_retF (fin_own (o := .of out_5)) (mine_own rfl))
def w_toIntS (F : Nat) (a_1 : (List Int)) : Option (List Int) :=
  (mkN (a_1.length : Int) 0).bind fun mk_2 =>
  w_toIntS_l1 F a_1 F mk_2 0
theorem t14 (H : H14 D σ F) (a_1 : (List Int)) (s : Nat → V) (hs : Facts [(0, (Enc.enc (a_1 : List Int)))] s) (h : w_toIntS F a_1 = some r) : Run D σ (R14 r) (.run A14 []) s := by
  unfold w_toIntS at h
  have h0 := hs
  refine .seq ?_
  refine run_reg ?_
  refine e_end ?_
  refine g_v0 (.sl .nl (Enc.shp Int) 0 []) rfl rfl ?_
  refine g_end ?_
  refine e_end ?_
  refine renew [(0, (Enc.enc (a_1 : List Int))), (2, (.sl .nl (Enc.shp Int) 0 []))] ⟨h0, rfl⟩ ?_
  rintro s ⟨h0, h2⟩
  refine .nsq ?_
  refine .seq ?_
  refine run_reg ?_
  refine e_clr ?_
  refine e_end ?_
  refine g_v1 (t := 0) (u := (Enc.enc (a_1 : List Int))) (Enc.enc (a_1 : List Int)) (keep_clear (s := s) (pk := [7]) h0 rfl (Enc.map_enc _ (a_1 : List Int))) rfl rfl ?_
  refine g_v (.int .i64 (a_1.length : Int)) (ev_len (xs := a_1) rfl) ?_
  obtain ⟨mk_2, E_mk_2, h⟩ := bind_some h
  refine g_mk (0 : Int) rfl rfl (gone_clear (s := s) (pk := [7]) (t := 7) rfl) E_mk_2 ?_
  refine g_v1 (t := 7) (u := (encO (.at 7 []) (.of (mk_2 : List Int)))) (encO (.at 7 []) (.of (mk_2 : List Int))) rfl rfl rfl ?_
  refine g_end ?_
  refine e_home (r := 7) (x := 3) (v := (encO (.at 7 []) (.of (mk_2 : List Int)))) (by exact rfl) rfl (fun s_2 hg_2 => ?_)
  refine e_end ?_
  refine renew [(0, (Enc.enc (a_1 : List Int))), (2, (.sl .nl (Enc.shp Int) 0 [])), (3, (encO (.at 3 []) (.of (mk_2 : List Int))))] ⟨(hg_2 0 (Enc.enc (a_1 : List Int)) (Enc.enc (a_1 : List Int)) (keep_clear (s := s) (pk := [7]) h0 rfl (Enc.map_enc _ (a_1 : List Int))) (Enc.map_enc _ (a_1 : List Int))), (hg_2 2 (.sl .nl (Enc.shp Int) 0 []) (.sl .nl (Enc.shp Int) 0 []) (keep_clear (s := s) (pk := [7]) h2 rfl rfl) rfl), (hg_2 3 (encO (.at 7 []) (.of (mk_2 : List Int))) (encO (.at 3 []) (.of (mk_2 : List Int))) rfl (map_encO (r := 7) (p := []) rfl rfl))⟩ ?_
  rintro s ⟨h0, h2, h3⟩
  refine .nsq ?_
  refine .seq ?_
  refine .seq ?_
  refine run_reg ?_
  refine e_end ?_
  refine g_v0 (.int .i64 0) rfl rfl ?_
  refine g_end ?_
  refine e_end ?_
  refine renew [(0, (Enc.enc (a_1 : List Int))), (2, (.sl .nl (Enc.shp Int) 0 [])), (3, (encO (.at 3 []) (.of (mk_2 : List Int)))), (4, (.int .i64 0))] ⟨h0, h2, h3, rfl⟩ ?_
  rintro s ⟨h0, h2, h3, h4⟩
  refine .nsq ?_
  refine .block ?_
  refine .loop ?_
  exact t_f14_l1 H a_1 F mk_2 0 _ ⟨h0, h2, h3, h4⟩ h
end
def e14 (F : Nat) : Ent := ⟨14, da (fun (x : ((List Int) × Unit)) => w_toIntS F x.1) (fun (r : (List Int)) => (Enc.enc (r : (List Int)))), 0, false, selF []⟩
theorem p14 {F : Nat} {x0 : (List Int)} {r : (List Int)} (h : w_toIntS F x0 = some r) : (e14 F).den [Enc.enc x0] = some (Enc.enc (r : (List Int))) := da_put (f := fun (x : ((List Int) × Unit)) => w_toIntS F x.1) (t := fun (r : (List Int)) => (Enc.enc (r : (List Int)))) (x0, ()) h
theorem o14 {D : Den} {σ : Sig} {F : Nat} (hF : Fits2 Try.prog D σ) (H : H14 D σ F) : (e14 F).Ok Try.prog := by
  refine ⟨fun args r h => ?_, ⟨Try.f14, Try.func14, rfl, rfl⟩⟩
  obtain ⟨⟨x0, _⟩, y, rfl, hy, rfl⟩ := da_open h
  exact contract_run hF (by kernel_rfl) Try.func14 rfl c14 (show 1 ≤ Try.f14.ntmps by decide) (t14 H x0 _ rfl hy)
/- loop.example/g01109/laws.toIntSS -/
def A22_2 : AC := (AC.cond (O.t 11) AC.skip (AC.exit 0))
def A22_4 : AC := (AC.reg [] [(I.mk (some 12) none false (X.v (A.mov (O.t 4)))), (I.mk (some 13) none false (X.v (A.bin BinOp.add (O.t 12) (O.k (V.int IntKind.i64 (Int.ofNat 1)))))), (I.mk (some 4) none false (X.v (A.mov (O.t 13))))] [])
def A22_3 : AC := (AC.seq (AC.block 1 (AC.reg [] [(I.mk (some 14) none false (X.v (A.mov (O.t 3)))), (I.mk (some 15) none false (X.v (A.mov (O.t 4)))), (I.mk (some 16) none false (X.v (A.mov (O.t 0)))), (I.mk (some 17) none false (X.v (A.mov (O.t 4)))), (I.mk (some 18) none false (X.v (A.idx (O.t 16) (O.t 17) 1))), (I.mk (some 19) none false (X.v (A.load Sh.p (O.t 18)))), (I.mk (some 20) none false (X.call (O.k (V.fn 14 [] [])) [(O.t 19)])), (I.mk (some 21) none false (X.v (A.idx (O.t 14) (O.t 15) 1))), (I.mk none none false (X.store Sh.p (O.t 21) (O.t 20)))] [])) A22_4)
def A22_1 : AC := (AC.seq (AC.seq (AC.reg [] [(I.mk (some 8) none false (X.v (A.mov (O.t 4)))), (I.mk (some 9) none false (X.v (A.mov (O.t 0)))), (I.mk (some 10) none false (X.v (A.len (O.t 9)))), (I.mk (some 11) none false (X.v (A.bin BinOp.lss (O.t 8) (O.t 10))))] []) A22_2) A22_3)
def A22_5 : AC := (AC.seq (AC.reg [] [(I.mk (some 22) none false (X.v (A.mov (O.t 3)))), (I.mk (some 2) none false (X.v (A.mov (O.t 22))))] [.home 3 2]) AC.ret)
def A22_8 : AC := (AC.block 0 (AC.loop A22_1))
def A22_7 : AC := (AC.seq (AC.seq (AC.reg [] [(I.mk (some 4) none false (X.v (A.mov (O.k (V.int IntKind.i64 (Int.ofNat 0))))))] []) A22_8) A22_5)
def A22_6 : AC := (AC.seq (AC.reg [.clr [7]] [(I.mk (some 5) none false (X.v (A.mov (O.t 0)))), (I.mk (some 6) none false (X.v (A.len (O.t 5)))), (I.mk (some 7) none false (X.mk (O.t 6) (V.sl Tok.sh Sh.s 0 []))), (I.mk (some 3) none false (X.v (A.mov (O.t 7))))] [.home 7 3]) A22_7)
def A22 : AC := (AC.seq (AC.reg [] [(I.mk (some 2) none false (X.v (A.mov (O.k (V.sl Tok.nl Sh.p 0 [])))))] []) A22_6)
def an22 : List An := [{ id := 1, pre := [.clr [7]], ep := [.home 7 3], lin := [], sp := [] }, { id := 6, pre := [], ep := [.home 3 2], lin := [], sp := [] }]
theorem c22 : cC Try.prog Try.f22.ntmps an22 (Try.f22.body.getD .skip) = some A22 := by kernel_rfl
structure H22 (D : Den) (σ : Sig) (F : Nat) : Prop where
  c14 : ∀ (x0 : (List Int)) r, w_toIntS F x0 = some r → D 14 [Enc.enc x0] = some (Enc.enc (r : (List Int)))
  g14 : σ 14 = some (0, false)
abbrev R22 (r : (List (List Int))) : (Nat → V) → Prop := RR Try.prog [.tmp 2] 0 true (Enc.enc (r : (List (List Int))))
section
variable {D : Den} {σ : Sig} {F : Nat} {r : (List (List Int))}
def w_toIntSS_l1 (F : Nat) (a_1 : (List (List Int)))  : Nat → (List (List Int)) → Int → Option (List (List Int))
  | 0, _, _ => none
  | k + 1, out_6, i_7 =>
    bif decide (i_7 < (a_1.length : Int)) then
      (idx a_1 i_7).bind fun e_11 =>
      (w_toIntS F e_11).bind fun r_12 =>
      (idx out_6 i_7).bind fun e_13 =>
      (w_toIntSS_l1 F a_1 k) (out_6.set i_7.toNat r_12) (w64 (i_7 + 1))
    else
      some out_6
theorem t_f22_l1 (H : H22 D σ F) (a_1 : (List (List Int)))  : ∀ (k : Nat) (out_6 : (List (List Int))) (i_7 : Int) (s : Nat → V), Facts [(0, (Enc.enc (a_1 : List (List Int)))), (2, (.sl .nl (Enc.shp (List Int)) 0 [])), (3, (encO (.at 3 []) (.of (out_6 : List (List Int))))), (4, (.int .i64 i_7))] s → w_toIntSS_l1 F a_1 k out_6 i_7 = some r → Run D σ (R22 r) (.run A22_1 [.lp A22_1, .bk 0, .sq A22_5]) s := by
  intro k
  induction k with
  | zero => intro out_6 i_7 s _ h; exact nomatch (h : (none : Option _) = some r)
  | succ k ih =>
    intro out_6 i_7 s hs h
    rw [w_toIntSS_l1] at h
    obtain ⟨h0, h2, h3, h4⟩ := hs
    refine .seq ?_
    refine .seq ?_
    refine run_reg ?_
    refine e_end ?_
    refine g_v1 (t := 4) (u := (.int .i64 i_7)) (.int .i64 i_7) h4 rfl rfl ?_
    refine g_v1 (t := 0) (u := (Enc.enc (a_1 : List (List Int)))) (Enc.enc (a_1 : List (List Int))) h0 rfl rfl ?_
    refine g_v (.int .i64 (a_1.length : Int)) (ev_len (xs := a_1) rfl) ?_
    refine g_v2 (t1 := 8) (t2 := 10) (u1 := (.int .i64 i_7)) (u2 := (.int .i64 (a_1.length : Int))) (.bool (decide (i_7 < (a_1.length : Int)))) rfl rfl rfl rfl ?_
    refine g_end ?_
    refine e_end ?_
    refine renew [(0, (Enc.enc (a_1 : List (List Int)))), (2, (.sl .nl (Enc.shp (List Int)) 0 [])), (3, (encO (.at 3 []) (.of (out_6 : List (List Int))))), (4, (.int .i64 i_7)), (11, (.bool (decide (i_7 < (a_1.length : Int)))))] ⟨h0, h2, h3, h4, rfl⟩ ?_
    rintro s ⟨h0, h2, h3, h4, h11⟩
    refine .nsq ?_
    refine run_cond (t := decide (i_7 < (a_1.length : Int))) h11 h (fun h => ?_) (fun h => ?_)
    · refine .skip ?_
      refine .nsq ?_
      refine .seq ?_
      refine .block ?_
      refine run_reg ?_
      refine e_end ?_
      refine g_v1 (t := 3) (u := (encO (.at 3 []) (.of (out_6 : List (List Int))))) (encO (.at 3 []) (.of (out_6 : List (List Int)))) h3 rfl rfl ?_
      refine g_v1 (t := 4) (u := (.int .i64 i_7)) (.int .i64 i_7) h4 rfl rfl ?_
      refine g_v1 (t := 0) (u := (Enc.enc (a_1 : List (List Int)))) (Enc.enc (a_1 : List (List Int))) h0 rfl rfl ?_
      refine g_v1 (t := 4) (u := (.int .i64 i_7)) (.int .i64 i_7) h4 rfl rfl ?_
      obtain ⟨e_11, E_e_11, h⟩ := bind_some h
      refine g_v (.ref .sh 0 [] (Enc.enc (e_11 : List Int))) (ev_idx (t := .sh) (lo := 0) (xs := a_1) rfl rfl E_e_11 rfl rfl) ?_
      refine g_v1 (t := 18) (u := (.ref .sh 0 [] (Enc.enc (e_11 : List Int)))) (Enc.enc (e_11 : List Int)) rfl rfl rfl ?_
      obtain ⟨r_12, E_r_12, h⟩ := bind_some h
      refine g_call (m := 0) (al := false) (r := (Enc.enc (r_12 : (List Int)))) [Enc.enc (e_11 : (List Int))] (ta_cons (v := (Enc.enc (e_11 : List Int))) rfl rfl (Enc.erase_enc (e_11 : (List Int))) ta_nil) (H.c14 _ _ E_r_12) H.g14 rfl rfl rfl rfl ?_
      obtain ⟨e_13, E_e_13, h⟩ := bind_some h
      refine g_v (.ref (.at 3 []) i_7.toNat [] (Enc.enc (e_13 : List Int))) (ev_idxO (o := (.of out_6)) rfl rfl E_e_13 rfl) ?_
      refine g_store (Enc.enc (r_12 : List Int)) (rd_of rfl rfl) (rd_of rfl rfl) (by refine ⟨by decide, by decide, rfl, rfl, rfl, ?_⟩; first | rfl | simp [V.toks, V.tokss, Enc.toks_enc]) ?_
      refine g_end ?_
      refine e_end ?_
      refine renew [(0, (Enc.enc (a_1 : List (List Int)))), (2, (.sl .nl (Enc.shp (List Int)) 0 [])), (3, (encO (.at 3 []) (.of (out_6.set i_7.toNat r_12 : List (List Int))))), (4, (.int .i64 i_7))] ⟨(keep_mut h0 (Enc.mut_enc _ _ _ _ (a_1 : List (List Int)))), (keep_mut h2 rfl), (keep_mut h3 mut_own), (keep_mut h4 rfl)⟩ ?_
      rintro s ⟨h0, h2, h3, h4⟩
      refine .nbk ?_
      refine .nsq ?_
      refine run_reg ?_
      refine e_end ?_
      refine g_v1 (t := 4) (u := (.int .i64 i_7)) (.int .i64 i_7) h4 rfl rfl ?_
      refine g_v1 (t := 12) (u := (.int .i64 i_7)) (.int .i64 (w64 (i_7 + 1))) rfl rfl rfl ?_
      refine g_v1 (t := 13) (u := (.int .i64 (w64 (i_7 + 1)))) (.int .i64 (w64 (i_7 + 1))) rfl rfl rfl ?_
      refine g_end ?_
      refine e_end ?_
      refine renew [(0, (Enc.enc (a_1 : List (List Int)))), (2, (.sl .nl (Enc.shp (List Int)) 0 [])), (3, (encO (.at 3 []) (.of (out_6.set i_7.toNat r_12 : List (List Int))))), (4, (.int .i64 (w64 (i_7 + 1))))] ⟨h0, h2, h3, rfl⟩ ?_
      rintro s ⟨h0, h2, h3, h4⟩
      refine .nlp ?_
      exact ih (out_6.set i_7.toNat r_12) (w64 (i_7 + 1)) _ ⟨h0, h2, h3, h4⟩ h
    · refine .exit ?_
      refine .esq ?_
      refine .elp ?_
      refine .ebk ?_
      refine .nsq ?_
      refine .seq ?_
      refine run_reg ?_
      refine e_end ?_
      refine g_v1 (t := 3) (u := (encO (.at 3 []) (.of (out_6 : List (List Int))))) (encO (.at 3 []) (.of (out_6 : List (List Int)))) h3 rfl rfl ?_
      refine g_v1 (t := 22) (u := (encO (.at 3 []) (.of (out_6 : List (List Int))))) (encO (.at 3 []) (.of (out_6 : List (List Int)))) rfl rfl rfl ?_
      refine g_end ?_
      refine e_home (r := 3) (x := 2) (v := (encO (.at 3 []) (.of (out_6 : List (List Int))))) (by exact rfl) rfl (fun s_3 hg_3 => ?_)
      refine e_end ?_
      refine renew [(2, (encO (.at 2 []) (.of (out_6 : List (List Int)))))] (hg_3 2 (encO (.at 3 []) (.of (out_6 : List (List Int)))) (encO (.at 2 []) (.of (out_6 : List (List Int)))) rfl (map_encO (r := 3) (p := []) rfl rfl)) ?_
      rintro s h2
      refine .nsq ?_
      refine .ret ?_
      have hr := Option.some.inj h
      subst hr
      exact rrA (res_tmp h2) (fin_ret1 (fin_own (o := .of out_6)))
def w_toIntSS (F : Nat) (a_1 : (List (List Int))) : Option (List (List Int)) :=
  (mkN (a_1.length : Int) []).bind fun mk_2 =>
  w_toIntSS_l1 F a_1 F mk_2 0
theorem t22 (H : H22 D σ F) (a_1 : (List (List Int))) (s : Nat → V) (hs : Facts [(0, (Enc.enc (a_1 : List (List Int))))] s) (h : w_toIntSS F a_1 = some r) : Run D σ (R22 r) (.run A22 []) s := by
  unfold w_toIntSS at h
  have h0 := hs
  refine .seq ?_
  refine run_reg ?_
  refine e_end ?_
  refine g_v0 (.sl .nl (Enc.shp (List Int)) 0 []) rfl rfl ?_
  refine g_end ?_
  refine e_end ?_
  refine renew [(0, (Enc.enc (a_1 : List (List Int)))), (2, (.sl .nl (Enc.shp (List Int)) 0 []))] ⟨h0, rfl⟩ ?_
  rintro s ⟨h0, h2⟩
  refine .nsq ?_
  refine .seq ?_
  refine run_reg ?_
  refine e_clr ?_
  refine e_end ?_
  refine g_v1 (t := 0) (u := (Enc.enc (a_1 : List (List Int)))) (Enc.enc (a_1 : List (List Int))) (keep_clear (s := s) (pk := [7]) h0 rfl (Enc.map_enc _ (a_1 : List (List Int)))) rfl rfl ?_
  refine g_v (.int .i64 (a_1.length : Int)) (ev_len (xs := a_1) rfl) ?_
  obtain ⟨mk_2, E_mk_2, h⟩ := bind_some h
  refine g_mk ([] : (List Int)) rfl rfl (gone_clear (s := s) (pk := [7]) (t := 7) rfl) E_mk_2 ?_
  refine g_v1 (t := 7) (u := (encO (.at 7 []) (.of (mk_2 : List (List Int))))) (encO (.at 7 []) (.of (mk_2 : List (List Int)))) rfl rfl rfl ?_
  refine g_end ?_
  refine e_home (r := 7) (x := 3) (v := (encO (.at 7 []) (.of (mk_2 : List (List Int))))) (by exact rfl) rfl (fun s_2 hg_2 => ?_)
  refine e_end ?_
  refine renew [(0, (Enc.enc (a_1 : List (List Int)))), (2, (.sl .nl (Enc.shp (List Int)) 0 [])), (3, (encO (.at 3 []) (.of (mk_2 : List (List Int)))))] ⟨(hg_2 0 (Enc.enc (a_1 : List (List Int))) (Enc.enc (a_1 : List (List Int))) (keep_clear (s := s) (pk := [7]) h0 rfl (Enc.map_enc _ (a_1 : List (List Int)))) (Enc.map_enc _ (a_1 : List (List Int)))), (hg_2 2 (.sl .nl (Enc.shp (List Int)) 0 []) (.sl .nl (Enc.shp (List Int)) 0 []) (keep_clear (s := s) (pk := [7]) h2 rfl rfl) rfl), (hg_2 3 (encO (.at 7 []) (.of (mk_2 : List (List Int)))) (encO (.at 3 []) (.of (mk_2 : List (List Int)))) rfl (map_encO (r := 7) (p := []) rfl rfl))⟩ ?_
  rintro s ⟨h0, h2, h3⟩
  refine .nsq ?_
  refine .seq ?_
  refine .seq ?_
  refine run_reg ?_
  refine e_end ?_
  refine g_v0 (.int .i64 0) rfl rfl ?_
  refine g_end ?_
  refine e_end ?_
  refine renew [(0, (Enc.enc (a_1 : List (List Int)))), (2, (.sl .nl (Enc.shp (List Int)) 0 [])), (3, (encO (.at 3 []) (.of (mk_2 : List (List Int))))), (4, (.int .i64 0))] ⟨h0, h2, h3, rfl⟩ ?_
  rintro s ⟨h0, h2, h3, h4⟩
  refine .nsq ?_
  refine .block ?_
  refine .loop ?_
  exact t_f22_l1 H a_1 F mk_2 0 _ ⟨h0, h2, h3, h4⟩ h
end
def e22 (F : Nat) : Ent := ⟨22, da (fun (x : ((List (List Int)) × Unit)) => w_toIntSS F x.1) (fun (r : (List (List Int))) => (Enc.enc (r : (List (List Int))))), 0, true, selF []⟩
theorem p22 {F : Nat} {x0 : (List (List Int))} {r : (List (List Int))} (h : w_toIntSS F x0 = some r) : (e22 F).den [Enc.enc x0] = some (Enc.enc (r : (List (List Int)))) := da_put (f := fun (x : ((List (List Int)) × Unit)) => w_toIntSS F x.1) (t := fun (r : (List (List Int))) => (Enc.enc (r : (List (List Int))))) (x0, ()) h
theorem o22 {D : Den} {σ : Sig} {F : Nat} (hF : Fits2 Try.prog D σ) (H : H22 D σ F) : (e22 F).Ok Try.prog := by
  refine ⟨fun args r h => ?_, ⟨Try.f22, Try.func22, rfl, rfl⟩⟩
  obtain ⟨⟨x0, _⟩, y, rfl, hy, rfl⟩ := da_open h
  exact contract_run hF (by kernel_rfl) Try.func22 rfl c22 (show 1 ≤ Try.f22.ntmps by decide) (t22 H x0 _ rfl hy)
/- loop.example/g01109/laws.toDecomposition -/
def A29_4 : AC := (AC.seq (AC.reg [] [(I.mk (some 12) none false (X.v (A.load (Sh.ag [Sh.p, Sh.p]) (O.t 3)))), (I.mk none none false (X.store (Sh.ag [Sh.p, Sh.p]) (O.t 2) (O.t 12)))] []) AC.ret)
def A29_3 : AC := (AC.seq (AC.reg [] [(I.mk (some 8) none false (X.v (A.fld (O.t 1) 1 1))), (I.mk (some 9) none false (X.v (A.load Sh.p (O.t 8)))), (I.mk (some 10) none false (X.call (O.k (V.fn 46 [] [])) [(O.t 9)])), (I.mk (some 11) none false (X.v (A.fld (O.t 3) 1 1))), (I.mk none none false (X.store Sh.p (O.t 11) (O.t 10)))] []) A29_4)
def A29_2 : AC := (AC.seq (AC.reg [] [(I.mk (some 4) none false (X.v (A.fld (O.t 1) 0 0))), (I.mk (some 5) none false (X.v (A.load Sh.p (O.t 4)))), (I.mk (some 6) none false (X.call (O.k (V.fn 22 [] [])) [(O.t 5)])), (I.mk (some 7) none false (X.v (A.fld (O.t 3) 0 0))), (I.mk none none false (X.store Sh.p (O.t 7) (O.t 6)))] []) A29_3)
def A29_1 : AC := (AC.seq (AC.reg [.clr [3]] [(I.mk (some 3) none false (X.alloc (V.agg [(V.sl Tok.nl Sh.p 0 []), (V.sl Tok.nl (Sh.ag [Sh.s, Sh.s]) 0 [])])))] []) A29_2)
def A29 : AC := (AC.seq (AC.reg [.clr [1, 2]] [(I.mk (some 1) none false (X.box (O.t 0))), (I.mk (some 2) none false (X.alloc (V.agg [(V.sl Tok.nl Sh.p 0 []), (V.sl Tok.nl (Sh.ag [Sh.s, Sh.s]) 0 [])])))] []) A29_1)
def an29 : List An := [{ id := 0, pre := [.clr [1, 2]], ep := [], lin := [], sp := [] }, { id := 1, pre := [.clr [3]], ep := [], lin := [], sp := [] }]
theorem c29 : cC Try.prog Try.f29.ntmps an29 (Try.f29.body.getD .skip) = some A29 := by kernel_rfl
structure H29 (D : Den) (σ : Sig) (F : Nat) : Prop where
  c22 : ∀ (x0 : (List (List Int))) r, w_toIntSS F x0 = some r → D 22 [Enc.enc x0] = some (Enc.enc (r : (List (List Int))))
  g22 : σ 22 = some (0, true)
  c46 : ∀ (x0 : (List (Int × Int))) r, w_toIntA2S F x0 = some r → D 46 [Enc.enc x0] = some (Enc.enc (r : (List (Int × Int))))
  g46 : σ 46 = some (0, false)
abbrev R29 (r : ((List (List Int)) × (List (Int × Int)))) : (Nat → V) → Prop := RR Try.prog [.cell 2 47] 0 true (Enc.enc (r : ((List (List Int)) × (List (Int × Int)))))
section
variable {D : Den} {σ : Sig} {F : Nat} {r : ((List (List Int)) × (List (Int × Int)))}
def w_toDecomposition (F : Nat) (a_1 : ((List (List Int)) × (List (Int × Int)))) : Option ((List (List Int)) × (List (Int × Int))) :=
  (w_toIntSS F a_1.1).bind fun r_2 =>
  (w_toIntA2S F a_1.2).bind fun r_3 =>
  some (r_2, r_3)
theorem t29 (H : H29 D σ F) (a_1 : ((List (List Int)) × (List (Int × Int)))) (s : Nat → V) (hs : Facts [(0, (.agg [(Enc.enc (a_1.1 : List (List Int))), (Enc.enc (a_1.2 : List (Int × Int)))]))] s) (h : w_toDecomposition F a_1 = some r) : Run D σ (R29 r) (.run A29 []) s := by
  unfold w_toDecomposition at h
  have h0 := hs
  refine .seq ?_
  refine run_reg ?_
  refine e_clr ?_
  refine e_end ?_
  refine g_box (.agg [(Enc.enc (a_1.1 : List (List Int))), (Enc.enc (a_1.2 : List (Int × Int)))]) (rd_of (keep_clear (s := s) (pk := [1, 2]) h0 rfl (map_agg (maps_cons (Enc.map_enc _ (a_1.1 : List (List Int))) (maps_cons (Enc.map_enc _ (a_1.2 : List (Int × Int))) maps_nil)))) rfl) (gone_clear (s := s) (pk := [1, 2]) (t := 1) rfl) rfl ?_
  refine g_alloc (gone_clear (s := s) (pk := [1, 2]) (t := 2) rfl) ?_
  refine g_end ?_
  refine e_end ?_
  refine renew [(1, (.ref (.bx 1) 0 [] (.agg [(Enc.enc (a_1.1 : List (List Int))), (Enc.enc (a_1.2 : List (Int × Int)))]))), (2, (.ref (.bx 2) 0 [] (.agg [(.sl .nl (Enc.shp (List Int)) 0 []), (.sl .nl (Enc.shp (Int × Int)) 0 [])])))] ⟨rfl, rfl⟩ ?_
  rintro s ⟨h1, h2⟩
  refine .nsq ?_
  refine .seq ?_
  refine run_reg ?_
  refine e_clr ?_
  refine e_end ?_
  refine g_alloc (gone_clear (s := s) (pk := [3]) (t := 3) rfl) ?_
  refine g_end ?_
  refine e_end ?_
  refine renew [(1, (.ref (.bx 1) 0 [] (.agg [(Enc.enc (a_1.1 : List (List Int))), (Enc.enc (a_1.2 : List (Int × Int)))]))), (2, (.ref (.bx 2) 0 [] (.agg [(.sl .nl (Enc.shp (List Int)) 0 []), (.sl .nl (Enc.shp (Int × Int)) 0 [])]))), (3, (.ref (.bx 3) 0 [] (.agg [(.sl .nl (Enc.shp (List Int)) 0 []), (.sl .nl (Enc.shp (Int × Int)) 0 [])])))] ⟨(keep_clear (s := s) (pk := [3]) h1 rfl (map_bx rfl (map_agg (maps_cons (Enc.map_enc _ (a_1.1 : List (List Int))) (maps_cons (Enc.map_enc _ (a_1.2 : List (Int × Int))) maps_nil))))), (keep_clear (s := s) (pk := [3]) h2 rfl (map_bx rfl (map_agg (maps_cons rfl (maps_cons rfl maps_nil))))), rfl⟩ ?_
  rintro s ⟨h1, h2, h3⟩
  refine .nsq ?_
  refine .seq ?_
  refine run_reg ?_
  refine e_end ?_
  refine g_v1 (t := 1) (u := (.ref (.bx 1) 0 [] (.agg [(Enc.enc (a_1.1 : List (List Int))), (Enc.enc (a_1.2 : List (Int × Int)))]))) (.ref (.bx 1) 0 [0] (Enc.enc (a_1.1 : List (List Int)))) h1 rfl rfl ?_
  refine g_v1 (t := 4) (u := (.ref (.bx 1) 0 [0] (Enc.enc (a_1.1 : List (List Int))))) (Enc.enc (a_1.1 : List (List Int))) rfl rfl rfl ?_
  obtain ⟨r_2, E_r_2, h⟩ := bind_some h
  refine g_call (m := 0) (al := true) (r := (Enc.enc (r_2 : (List (List Int))))) [Enc.enc (a_1.1 : (List (List Int)))] (ta_cons (v := (Enc.enc (a_1.1 : List (List Int)))) rfl rfl (Enc.erase_enc (a_1.1 : (List (List Int)))) ta_nil) (H.c22 _ _ E_r_2) H.g22 (hal_of (ht_cons (v := (Enc.enc (a_1.1 : List (List Int)))) rfl rfl rfl ht_nil)) rfl rfl rfl ?_
  refine g_v1 (t := 3) (u := (.ref (.bx 3) 0 [] (.agg [(.sl .nl (Enc.shp (List Int)) 0 []), (.sl .nl (Enc.shp (Int × Int)) 0 [])]))) (.ref (.bx 3) 0 [0] (.sl .nl (Enc.shp (List Int)) 0 [])) h3 rfl rfl ?_
  refine g_store (Enc.enc (r_2 : List (List Int))) (rd_of rfl rfl) (rd_of rfl rfl) (by refine ⟨by decide, by decide, rfl, rfl, rfl, ?_⟩; first | rfl | simp [V.toks, V.tokss, Enc.toks_enc]) ?_
  refine g_end ?_
  refine e_end ?_
  refine renew [(1, (.ref (.bx 1) 0 [] (.agg [(Enc.enc (a_1.1 : List (List Int))), (Enc.enc (a_1.2 : List (Int × Int)))]))), (2, (.ref (.bx 2) 0 [] (.agg [(.sl .nl (Enc.shp (List Int)) 0 []), (.sl .nl (Enc.shp (Int × Int)) 0 [])]))), (3, (.ref (.bx 3) 0 [] (.agg [(Enc.enc (r_2 : List (List Int))), (.sl .nl (Enc.shp (Int × Int)) 0 [])])))] ⟨(keep_mut h1 (mut_ref_ne rfl rfl (mut_agg (muts_cons (Enc.mut_enc _ _ _ _ (a_1.1 : List (List Int))) (muts_cons (Enc.mut_enc _ _ _ _ (a_1.2 : List (Int × Int))) rfl))))), (keep_mut h2 (mut_ref_ne rfl rfl (mut_agg (muts_cons rfl (muts_cons rfl rfl))))), (keep_mut h3 rfl)⟩ ?_
  rintro s ⟨h1, h2, h3⟩
  refine .nsq ?_
  refine .seq ?_
  refine run_reg ?_
  refine e_end ?_
  refine g_v1 (t := 1) (u := (.ref (.bx 1) 0 [] (.agg [(Enc.enc (a_1.1 : List (List Int))), (Enc.enc (a_1.2 : List (Int × Int)))]))) (.ref (.bx 1) 0 [1] (Enc.enc (a_1.2 : List (Int × Int)))) h1 rfl rfl ?_
  refine g_v1 (t := 8) (u := (.ref (.bx 1) 0 [1] (Enc.enc (a_1.2 : List (Int × Int))))) (Enc.enc (a_1.2 : List (Int × Int))) rfl rfl rfl ?_
  obtain ⟨r_3, E_r_3, h⟩ := bind_some h
  refine g_call (m := 0) (al := false) (r := (Enc.enc (r_3 : (List (Int × Int))))) [Enc.enc (a_1.2 : (List (Int × Int)))] (ta_cons (v := (Enc.enc (a_1.2 : List (Int × Int)))) rfl rfl (Enc.erase_enc (a_1.2 : (List (Int × Int)))) ta_nil) (H.c46 _ _ E_r_3) H.g46 rfl rfl rfl rfl ?_
  refine g_v1 (t := 3) (u := (.ref (.bx 3) 0 [] (.agg [(Enc.enc (r_2 : List (List Int))), (.sl .nl (Enc.shp (Int × Int)) 0 [])]))) (.ref (.bx 3) 0 [1] (.sl .nl (Enc.shp (Int × Int)) 0 [])) h3 rfl rfl ?_
  refine g_store (Enc.enc (r_3 : List (Int × Int))) (rd_of rfl rfl) (rd_of rfl rfl) (by refine ⟨by decide, by decide, rfl, rfl, rfl, ?_⟩; first | rfl | simp [V.toks, V.tokss, Enc.toks_enc]) ?_
  refine g_end ?_
  refine e_end ?_
  refine renew [(2, (.ref (.bx 2) 0 [] (.agg [(.sl .nl (Enc.shp (List Int)) 0 []), (.sl .nl (Enc.shp (Int × Int)) 0 [])]))), (3, (.ref (.bx 3) 0 [] (.agg [(Enc.enc (r_2 : List (List Int))), (Enc.enc (r_3 : List (Int × Int)))])))] ⟨(keep_mut h2 (mut_ref_ne rfl rfl (mut_agg (muts_cons rfl (muts_cons rfl rfl))))), (keep_mut h3 rfl)⟩ ?_
  rintro s ⟨h2, h3⟩
  refine .nsq ?_
  refine .seq ?_
  refine run_reg ?_
  refine e_end ?_
  refine g_v1 (t := 3) (u := (.ref (.bx 3) 0 [] (.agg [(Enc.enc (r_2 : List (List Int))), (Enc.enc (r_3 : List (Int × Int)))]))) (.agg [(Enc.enc (r_2 : List (List Int))), (Enc.enc (r_3 : List (Int × Int)))]) h3 rfl rfl ?_
  refine g_store (.agg [(Enc.enc (r_2 : List (List Int))), (Enc.enc (r_3 : List (Int × Int)))]) (rd_of h2 rfl) (rd_of rfl rfl) (by refine ⟨by decide, by decide, rfl, rfl, rfl, ?_⟩; first | rfl | simp [V.toks, V.tokss, Enc.toks_enc]) ?_
  refine g_end ?_
  refine e_end ?_
  refine renew [(2, (.ref (.bx 2) 0 [] (.agg [(Enc.enc (r_2 : List (List Int))), (Enc.enc (r_3 : List (Int × Int)))])))] (keep_mut h2 rfl) ?_
  rintro s h2
  refine .nsq ?_
  refine .ret ?_
  have hr := Option.some.inj h
  subst hr
  exact rrA (res_cell h2 (by kernel_rfl)) (fin_ret1 (fin_enc (x := ((r_2, r_3) : ((List (List Int)) × (List (Int × Int)))))))
end
def e29 (F : Nat) : Ent := ⟨29, da (fun (x : (((List (List Int)) × (List (Int × Int))) × Unit)) => w_toDecomposition F x.1) (fun (r : ((List (List Int)) × (List (Int × Int)))) => (Enc.enc (r : ((List (List Int)) × (List (Int × Int)))))), 0, true, selF []⟩
theorem p29 {F : Nat} {x0 : ((List (List Int)) × (List (Int × Int)))} {r : ((List (List Int)) × (List (Int × Int)))} (h : w_toDecomposition F x0 = some r) : (e29 F).den [Enc.enc x0] = some (Enc.enc (r : ((List (List Int)) × (List (Int × Int))))) := da_put (f := fun (x : (((List (List Int)) × (List (Int × Int))) × Unit)) => w_toDecomposition F x.1) (t := fun (r : ((List (List Int)) × (List (Int × Int)))) => (Enc.enc (r : ((List (List Int)) × (List (Int × Int)))))) (x0, ()) h
theorem o29 {D : Den} {σ : Sig} {F : Nat} (hF : Fits2 Try.prog D σ) (H : H29 D σ F) : (e29 F).Ok Try.prog := by
  refine ⟨fun args r h => ?_, ⟨Try.f29, Try.func29, rfl, rfl⟩⟩
  obtain ⟨⟨x0, _⟩, y, rfl, hy, rfl⟩ := da_open h
  exact contract_run hF (by kernel_rfl) Try.func29 rfl c29 (show 1 ≤ Try.f29.ntmps by decide) (t29 H x0 _ rfl hy)
/- loop.example/g01109/spec.l1In -/
def A65_1 : AC := (AC.seq (AC.reg [] [(I.mk (some 7) none false (X.v (A.mov (O.t 0)))), (I.mk (some 8) none false (X.v (A.mov (O.t 1)))), (I.mk (some 9) none false (X.v (A.bin BinOp.geq (O.t 7) (O.t 8)))), (I.mk (some 10) none false (X.v (A.mov (O.t 9)))), (I.mk (some 11) (some (10, true)) false (X.v (A.mov (O.t 0)))), (I.mk (some 12) (some (10, true)) false (X.v (A.mov (O.t 2)))), (I.mk (some 13) (some (10, true)) false (X.v (A.bin BinOp.leq (O.t 11) (O.t 12)))), (I.mk (some 14) none false (X.v (A.pick (O.t 10) (O.t 13) (O.k (V.bool false))))), (I.mk (some 6) none false (X.v (A.mov (O.t 14))))] []) AC.ret)
def A65 : AC := (AC.seq (AC.reg [] [(I.mk (some 6) none false (X.v (A.mov (O.k (V.bool false)))))] []) A65_1)
def an65 : List An := []
theorem c65 : cC Try.prog Try.f65.ntmps an65 (Try.f65.body.getD .skip) = some A65 := by kernel_rfl
structure H65 (D : Den) (σ : Sig) (F : Nat) : Prop where
  mk ::
abbrev R65 (r : Bool) : (Nat → V) → Prop := RR Try.prog [.tmp 6] 0 false (Enc.enc (r : Bool))
section
variable {D : Den} {σ : Sig} {F : Nat} {r : Bool}
def s_l1In (F : Nat) (x_1 : Int) (a_2 : Int) (b_3 : Int) : Option Bool :=
  bif decide (x_1 ≥ a_2) then
    some (decide (x_1 ≤ b_3))
  else
    some false
theorem t65 (H : H65 D σ F) (x_1 : Int) (a_2 : Int) (b_3 : Int) (s : Nat → V) (hs : Facts [(0, (.int .i64 x_1)), (1, (.int .i64 a_2)), (2, (.int .i64 b_3))] s) (h : s_l1In F x_1 a_2 b_3 = some r) : Run D σ (R65 r) (.run A65 []) s := by
  unfold s_l1In at h
  obtain ⟨h0, h1, h2⟩ := hs
  refine .seq ?_
  refine run_reg ?_
  refine e_end ?_
  refine g_v0 (.bool false) rfl rfl ?_
  refine g_end ?_
  refine e_end ?_
  refine renew [(0, (.int .i64 x_1)), (1, (.int .i64 a_2)), (2, (.int .i64 b_3)), (6, (.bool false))] ⟨h0, h1, h2, rfl⟩ ?_
  rintro s ⟨h0, h1, h2, h6⟩
  refine .nsq ?_
  refine .seq ?_
  refine run_reg ?_
  refine e_end ?_
  refine g_v1 (t := 0) (u := (.int .i64 x_1)) (.int .i64 x_1) h0 rfl rfl ?_
  refine g_v1 (t := 1) (u := (.int .i64 a_2)) (.int .i64 a_2) h1 rfl rfl ?_
  refine g_v2 (t1 := 7) (t2 := 8) (u1 := (.int .i64 x_1)) (u2 := (.int .i64 a_2)) (.bool (decide (x_1 ≥ a_2))) rfl rfl rfl rfl ?_
  refine g_v1 (t := 9) (u := (.bool (decide (x_1 ≥ a_2)))) (.bool (decide (x_1 ≥ a_2))) rfl rfl rfl ?_
  refine split_on (c := decide (x_1 ≥ a_2)) h (fun hg4 h => ?_) (fun hg4 h => ?_)
  · refine g_yes (Eq.trans (b := .bool (decide (x_1 ≥ a_2))) rfl (congrArg V.bool hg4)) (g_v1 (t := 0) (u := (.int .i64 x_1)) (.int .i64 x_1) h0 rfl rfl ?_)
    refine g_yes (Eq.trans (b := .bool (decide (x_1 ≥ a_2))) rfl (congrArg V.bool hg4)) (g_v1 (t := 2) (u := (.int .i64 b_3)) (.int .i64 b_3) h2 rfl rfl ?_)
    refine g_yes (Eq.trans (b := .bool (decide (x_1 ≥ a_2))) rfl (congrArg V.bool hg4)) (g_v2 (t1 := 11) (t2 := 12) (u1 := (.int .i64 x_1)) (u2 := (.int .i64 b_3)) (.bool (decide (x_1 ≤ b_3))) rfl rfl rfl rfl ?_)
    refine g_v2 (t1 := 10) (t2 := 13) (u1 := (.bool true)) (u2 := (.bool (decide (x_1 ≤ b_3)))) (.bool (decide (x_1 ≤ b_3))) (Eq.trans (b := .bool (decide (x_1 ≥ a_2))) rfl (congrArg V.bool hg4)) rfl rfl rfl ?_
    refine g_v1 (t := 14) (u := (.bool (decide (x_1 ≤ b_3)))) (.bool (decide (x_1 ≤ b_3))) rfl rfl rfl ?_
    refine g_end ?_
    refine e_end ?_
    refine renew [(6, (.bool (decide (x_1 ≤ b_3))))] rfl ?_
    rintro s h6
    refine .nsq ?_
    refine .ret ?_
    have hr := Option.some.inj h
    subst hr
    exact rrA (res_tmp h6) rfl
  · refine g_no (Eq.trans (b := .bool (decide (x_1 ≥ a_2))) rfl (congrArg V.bool hg4)) ?_
    refine g_no (Eq.trans (b := .bool (decide (x_1 ≥ a_2))) rfl (congrArg V.bool hg4)) ?_
    refine g_no (Eq.trans (b := .bool (decide (x_1 ≥ a_2))) rfl (congrArg V.bool hg4)) ?_
    refine g_v2 (t1 := 10) (t2 := 13) (u1 := (.bool false)) (u2 := (.tup [])) (.bool false) (Eq.trans (b := .bool (decide (x_1 ≥ a_2))) rfl (congrArg V.bool hg4)) rfl rfl rfl ?_
    refine g_v1 (t := 14) (u := (.bool false)) (.bool false) rfl rfl rfl ?_
    refine g_end ?_
    refine e_end ?_
    refine renew [(6, (.bool false))] rfl ?_
    rintro s h6
    refine .nsq ?_
    refine .ret ?_
    have hr := Option.some.inj h
    subst hr
    exact rrA (res_tmp h6) rfl
end
def e65 (F : Nat) : Ent := ⟨65, da (fun (x : (Int × Int × Int × Unit)) => s_l1In F x.1 x.2.1 x.2.2.1) (fun (r : Bool) => (Enc.enc (r : Bool))), 0, false, selF []⟩
theorem p65 {F : Nat} {x0 : Int} {x1 : Int} {x2 : Int} {r : Bool} (h : s_l1In F x0 x1 x2 = some r) : (e65 F).den [Enc.enc x0, Enc.enc x1, Enc.enc x2] = some (Enc.enc (r : Bool)) := da_put (f := fun (x : (Int × Int × Int × Unit)) => s_l1In F x.1 x.2.1 x.2.2.1) (t := fun (r : Bool) => (Enc.enc (r : Bool))) (x0, x1, x2, ()) h
theorem o65 {D : Den} {σ : Sig} {F : Nat} (hF : Fits2 Try.prog D σ) (H : H65 D σ F) : (e65 F).Ok Try.prog := by
  refine ⟨fun args r h => ?_, ⟨Try.f65, Try.func65, rfl, rfl⟩⟩
  obtain ⟨⟨x0, x1, x2, _⟩, y, rfl, hy, rfl⟩ := da_open h
  exact contract_run hF (by kernel_rfl) Try.func65 rfl c65 (show 3 ≤ Try.f65.ntmps by decide) (t65 H x0 x1 x2 _ ⟨rfl, rfl, rfl⟩ hy)
/- loop.example/g01109/spec.l2Before -/
def A69_1 : AC := (AC.seq (AC.reg [] [(I.mk (some 5) none false (X.v (A.idxA (O.t 2) (O.k (V.int IntKind.i64 (Int.ofNat 0))) 2 1))), (I.mk (some 6) none false (X.v (A.load Sh.s (O.t 5)))), (I.mk (some 7) none false (X.v (A.idxA (O.t 3) (O.k (V.int IntKind.i64 (Int.ofNat 0))) 2 1))), (I.mk (some 8) none false (X.v (A.load Sh.s (O.t 7)))), (I.mk (some 9) none false (X.v (A.bin BinOp.lss (O.t 6) (O.t 8)))), (I.mk (some 10) none false (X.v (A.mov (O.t 9)))), (I.mk (some 11) (some (10, false)) false (X.v (A.idxA (O.t 2) (O.k (V.int IntKind.i64 (Int.ofNat 0))) 2 1))), (I.mk (some 12) (some (10, false)) false (X.v (A.load Sh.s (O.t 11)))), (I.mk (some 13) (some (10, false)) false (X.v (A.idxA (O.t 3) (O.k (V.int IntKind.i64 (Int.ofNat 0))) 2 1))), (I.mk (some 14) (some (10, false)) false (X.v (A.load Sh.s (O.t 13)))), (I.mk (some 15) (some (10, false)) false (X.v (A.bin BinOp.eql (O.t 12) (O.t 14)))), (I.mk (some 16) (some (10, false)) false (X.v (A.mov (O.t 15)))), (I.mk (some 17) (some (16, true)) false (X.v (A.idxA (O.t 2) (O.k (V.int IntKind.i64 (Int.ofNat 1))) 2 1))), (I.mk (some 18) (some (16, true)) false (X.v (A.load Sh.s (O.t 17)))), (I.mk (some 19) (some (16, true)) false (X.v (A.idxA (O.t 3) (O.k (V.int IntKind.i64 (Int.ofNat 1))) 2 1))), (I.mk (some 20) (some (16, true)) false (X.v (A.load Sh.s (O.t 19)))), (I.mk (some 21) (some (16, true)) false (X.v (A.bin BinOp.lss (O.t 18) (O.t 20)))), (I.mk (some 22) (some (10, false)) false (X.v (A.pick (O.t 16) (O.t 21) (O.k (V.bool false))))), (I.mk (some 23) none false (X.v (A.pick (O.t 10) (O.k (V.bool true)) (O.t 22)))), (I.mk (some 4) none false (X.v (A.mov (O.t 23))))] []) AC.ret)
def A69 : AC := (AC.seq (AC.reg [.clr [2, 3]] [(I.mk (some 2) none false (X.box (O.t 0))), (I.mk (some 3) none false (X.box (O.t 1))), (I.mk (some 4) none false (X.v (A.mov (O.k (V.bool false)))))] []) A69_1)
def an69 : List An := [{ id := 0, pre := [.clr [2, 3]], ep := [], lin := [], sp := [] }]
theorem c69 : cC Try.prog Try.f69.ntmps an69 (Try.f69.body.getD .skip) = some A69 := by kernel_rfl
structure H69 (D : Den) (σ : Sig) (F : Nat) : Prop where
  mk ::
abbrev R69 (r : Bool) : (Nat → V) → Prop := RR Try.prog [.tmp 4] 0 false (Enc.enc (r : Bool))
section
variable {D : Den} {σ : Sig} {F : Nat} {r : Bool}
def s_l2Before (F : Nat) (a_1 : (Int × Int)) (b_2 : (Int × Int)) : Option Bool :=
  bif decide (a_1.1 < b_2.1) then
    some true
  else
    bif (a_1.1 == b_2.1) then
      some (decide (a_1.2 < b_2.2))
    else
      some false
theorem t69 (H : H69 D σ F) (a_1 : (Int × Int)) (b_2 : (Int × Int)) (s : Nat → V) (hs : Facts [(0, (.agg [(.int .i64 a_1.1), (.int .i64 a_1.2)])), (1, (.agg [(.int .i64 b_2.1), (.int .i64 b_2.2)]))] s) (h : s_l2Before F a_1 b_2 = some r) : Run D σ (R69 r) (.run A69 []) s := by
  unfold s_l2Before at h
  obtain ⟨h0, h1⟩ := hs
  refine .seq ?_
  refine run_reg ?_
  refine e_clr ?_
  refine e_end ?_
  refine g_box (.agg [(.int .i64 a_1.1), (.int .i64 a_1.2)]) (rd_of (keep_clear (s := s) (pk := [2, 3]) h0 rfl (map_agg (maps_cons rfl (maps_cons rfl maps_nil)))) rfl) (gone_clear (s := s) (pk := [2, 3]) (t := 2) rfl) rfl ?_
  refine g_box (.agg [(.int .i64 b_2.1), (.int .i64 b_2.2)]) (rd_of (keep_clear (s := s) (pk := [2, 3]) h1 rfl (map_agg (maps_cons rfl (maps_cons rfl maps_nil)))) rfl) (gone_clear (s := s) (pk := [2, 3]) (t := 3) rfl) rfl ?_
  refine g_v0 (.bool false) rfl rfl ?_
  refine g_end ?_
  refine e_end ?_
  refine renew [(2, (.ref (.bx 2) 0 [] (.agg [(.int .i64 a_1.1), (.int .i64 a_1.2)]))), (3, (.ref (.bx 3) 0 [] (.agg [(.int .i64 b_2.1), (.int .i64 b_2.2)]))), (4, (.bool false))] ⟨rfl, rfl, rfl⟩ ?_
  rintro s ⟨h2, h3, h4⟩
  refine .nsq ?_
  refine .seq ?_
  refine run_reg ?_
  refine e_end ?_
  refine g_v1 (t := 2) (u := (.ref (.bx 2) 0 [] (.agg [(.int .i64 a_1.1), (.int .i64 a_1.2)]))) (.ref (.bx 2) 0 [0] (.int .i64 a_1.1)) h2 rfl rfl ?_
  refine g_v1 (t := 5) (u := (.ref (.bx 2) 0 [0] (.int .i64 a_1.1))) (.int .i64 a_1.1) rfl rfl rfl ?_
  refine g_v1 (t := 3) (u := (.ref (.bx 3) 0 [] (.agg [(.int .i64 b_2.1), (.int .i64 b_2.2)]))) (.ref (.bx 3) 0 [0] (.int .i64 b_2.1)) h3 rfl rfl ?_
  refine g_v1 (t := 7) (u := (.ref (.bx 3) 0 [0] (.int .i64 b_2.1))) (.int .i64 b_2.1) rfl rfl rfl ?_
  refine g_v2 (t1 := 6) (t2 := 8) (u1 := (.int .i64 a_1.1)) (u2 := (.int .i64 b_2.1)) (.bool (decide (a_1.1 < b_2.1))) rfl rfl rfl rfl ?_
  refine g_v1 (t := 9) (u := (.bool (decide (a_1.1 < b_2.1)))) (.bool (decide (a_1.1 < b_2.1))) rfl rfl rfl ?_
  refine split_on (c := decide (a_1.1 < b_2.1)) h (fun hg6 h => ?_) (fun hg6 h => ?_)
  · refine g_no (Eq.trans (b := .bool (decide (a_1.1 < b_2.1))) rfl (congrArg V.bool hg6)) ?_
    refine g_no (Eq.trans (b := .bool (decide (a_1.1 < b_2.1))) rfl (congrArg V.bool hg6)) ?_
    refine g_no (Eq.trans (b := .bool (decide (a_1.1 < b_2.1))) rfl (congrArg V.bool hg6)) ?_
    refine g_no (Eq.trans (b := .bool (decide (a_1.1 < b_2.1))) rfl (congrArg V.bool hg6)) ?_
    refine g_no (Eq.trans (b := .bool (decide (a_1.1 < b_2.1))) rfl (congrArg V.bool hg6)) ?_
    refine g_no (Eq.trans (b := .bool (decide (a_1.1 < b_2.1))) rfl (congrArg V.bool hg6)) ?_
    refine g_skip rfl ?_
    refine g_skip rfl ?_
    refine g_skip rfl ?_
    refine g_skip rfl ?_
    refine g_skip rfl ?_
    refine g_no (Eq.trans (b := .bool (decide (a_1.1 < b_2.1))) rfl (congrArg V.bool hg6)) ?_
    refine g_v2 (t1 := 10) (t2 := 22) (u1 := (.bool true)) (u2 := (.tup [])) (.bool true) (Eq.trans (b := .bool (decide (a_1.1 < b_2.1))) rfl (congrArg V.bool hg6)) rfl rfl rfl ?_
    refine g_v1 (t := 23) (u := (.bool true)) (.bool true) rfl rfl rfl ?_
    refine g_end ?_
    refine e_end ?_
    refine renew [(4, (.bool true))] rfl ?_
    rintro s h4
    refine .nsq ?_
    refine .ret ?_
    have hr := Option.some.inj h
    subst hr
    exact rrA (res_tmp h4) rfl
  · refine g_yes (Eq.trans (b := .bool (decide (a_1.1 < b_2.1))) rfl (congrArg V.bool hg6)) (g_v1 (t := 2) (u := (.ref (.bx 2) 0 [] (.agg [(.int .i64 a_1.1), (.int .i64 a_1.2)]))) (.ref (.bx 2) 0 [0] (.int .i64 a_1.1)) h2 rfl rfl ?_)
    refine g_yes (Eq.trans (b := .bool (decide (a_1.1 < b_2.1))) rfl (congrArg V.bool hg6)) (g_v1 (t := 11) (u := (.ref (.bx 2) 0 [0] (.int .i64 a_1.1))) (.int .i64 a_1.1) rfl rfl rfl ?_)
    refine g_yes (Eq.trans (b := .bool (decide (a_1.1 < b_2.1))) rfl (congrArg V.bool hg6)) (g_v1 (t := 3) (u := (.ref (.bx 3) 0 [] (.agg [(.int .i64 b_2.1), (.int .i64 b_2.2)]))) (.ref (.bx 3) 0 [0] (.int .i64 b_2.1)) h3 rfl rfl ?_)
    refine g_yes (Eq.trans (b := .bool (decide (a_1.1 < b_2.1))) rfl (congrArg V.bool hg6)) (g_v1 (t := 13) (u := (.ref (.bx 3) 0 [0] (.int .i64 b_2.1))) (.int .i64 b_2.1) rfl rfl rfl ?_)
    refine g_yes (Eq.trans (b := .bool (decide (a_1.1 < b_2.1))) rfl (congrArg V.bool hg6)) (g_v2 (t1 := 12) (t2 := 14) (u1 := (.int .i64 a_1.1)) (u2 := (.int .i64 b_2.1)) (.bool (a_1.1 == b_2.1)) rfl rfl rfl rfl ?_)
    refine g_yes (Eq.trans (b := .bool (decide (a_1.1 < b_2.1))) rfl (congrArg V.bool hg6)) (g_v1 (t := 15) (u := (.bool (a_1.1 == b_2.1))) (.bool (a_1.1 == b_2.1)) rfl rfl rfl ?_)
    refine split_on (c := (a_1.1 == b_2.1)) h (fun hg12 h => ?_) (fun hg12 h => ?_)
    · refine g_yes (Eq.trans (b := .bool (a_1.1 == b_2.1)) rfl (congrArg V.bool hg12)) (g_v1 (t := 2) (u := (.ref (.bx 2) 0 [] (.agg [(.int .i64 a_1.1), (.int .i64 a_1.2)]))) (.ref (.bx 2) 0 [1] (.int .i64 a_1.2)) h2 rfl rfl ?_)
      refine g_yes (Eq.trans (b := .bool (a_1.1 == b_2.1)) rfl (congrArg V.bool hg12)) (g_v1 (t := 17) (u := (.ref (.bx 2) 0 [1] (.int .i64 a_1.2))) (.int .i64 a_1.2) rfl rfl rfl ?_)
      refine g_yes (Eq.trans (b := .bool (a_1.1 == b_2.1)) rfl (congrArg V.bool hg12)) (g_v1 (t := 3) (u := (.ref (.bx 3) 0 [] (.agg [(.int .i64 b_2.1), (.int .i64 b_2.2)]))) (.ref (.bx 3) 0 [1] (.int .i64 b_2.2)) h3 rfl rfl ?_)
      refine g_yes (Eq.trans (b := .bool (a_1.1 == b_2.1)) rfl (congrArg V.bool hg12)) (g_v1 (t := 19) (u := (.ref (.bx 3) 0 [1] (.int .i64 b_2.2))) (.int .i64 b_2.2) rfl rfl rfl ?_)
      refine g_yes (Eq.trans (b := .bool (a_1.1 == b_2.1)) rfl (congrArg V.bool hg12)) (g_v2 (t1 := 18) (t2 := 20) (u1 := (.int .i64 a_1.2)) (u2 := (.int .i64 b_2.2)) (.bool (decide (a_1.2 < b_2.2))) rfl rfl rfl rfl ?_)
      refine g_yes (Eq.trans (b := .bool (decide (a_1.1 < b_2.1))) rfl (congrArg V.bool hg6)) (g_v2 (t1 := 16) (t2 := 21) (u1 := (.bool true)) (u2 := (.bool (decide (a_1.2 < b_2.2)))) (.bool (decide (a_1.2 < b_2.2))) (Eq.trans (b := .bool (a_1.1 == b_2.1)) rfl (congrArg V.bool hg12)) rfl rfl rfl ?_)
      refine g_v2 (t1 := 10) (t2 := 22) (u1 := (.bool false)) (u2 := (.bool (decide (a_1.2 < b_2.2)))) (.bool (decide (a_1.2 < b_2.2))) (Eq.trans (b := .bool (decide (a_1.1 < b_2.1))) rfl (congrArg V.bool hg6)) rfl rfl rfl ?_
      refine g_v1 (t := 23) (u := (.bool (decide (a_1.2 < b_2.2)))) (.bool (decide (a_1.2 < b_2.2))) rfl rfl rfl ?_
      refine g_end ?_
      refine e_end ?_
      refine renew [(4, (.bool (decide (a_1.2 < b_2.2))))] rfl ?_
      rintro s h4
      refine .nsq ?_
      refine .ret ?_
      have hr := Option.some.inj h
      subst hr
      exact rrA (res_tmp h4) rfl
    · refine g_no (Eq.trans (b := .bool (a_1.1 == b_2.1)) rfl (congrArg V.bool hg12)) ?_
      refine g_no (Eq.trans (b := .bool (a_1.1 == b_2.1)) rfl (congrArg V.bool hg12)) ?_
      refine g_no (Eq.trans (b := .bool (a_1.1 == b_2.1)) rfl (congrArg V.bool hg12)) ?_
      refine g_no (Eq.trans (b := .bool (a_1.1 == b_2.1)) rfl (congrArg V.bool hg12)) ?_
      refine g_no (Eq.trans (b := .bool (a_1.1 == b_2.1)) rfl (congrArg V.bool hg12)) ?_
      refine g_yes (Eq.trans (b := .bool (decide (a_1.1 < b_2.1))) rfl (congrArg V.bool hg6)) (g_v2 (t1 := 16) (t2 := 21) (u1 := (.bool false)) (u2 := (.tup [])) (.bool false) (Eq.trans (b := .bool (a_1.1 == b_2.1)) rfl (congrArg V.bool hg12)) rfl rfl rfl ?_)
      refine g_v2 (t1 := 10) (t2 := 22) (u1 := (.bool false)) (u2 := (.bool false)) (.bool false) (Eq.trans (b := .bool (decide (a_1.1 < b_2.1))) rfl (congrArg V.bool hg6)) rfl rfl rfl ?_
      refine g_v1 (t := 23) (u := (.bool false)) (.bool false) rfl rfl rfl ?_
      refine g_end ?_
      refine e_end ?_
      refine renew [(4, (.bool false))] rfl ?_
      rintro s h4
      refine .nsq ?_
      refine .ret ?_
      have hr := Option.some.inj h
      subst hr
      exact rrA (res_tmp h4) rfl
end
def e69 (F : Nat) : Ent := ⟨69, da (fun (x : ((Int × Int) × (Int × Int) × Unit)) => s_l2Before F x.1 x.2.1) (fun (r : Bool) => (Enc.enc (r : Bool))), 0, false, selF []⟩
theorem p69 {F : Nat} {x0 : (Int × Int)} {x1 : (Int × Int)} {r : Bool} (h : s_l2Before F x0 x1 = some r) : (e69 F).den [Enc.enc x0, Enc.enc x1] = some (Enc.enc (r : Bool)) := da_put (f := fun (x : ((Int × Int) × (Int × Int) × Unit)) => s_l2Before F x.1 x.2.1) (t := fun (r : Bool) => (Enc.enc (r : Bool))) (x0, x1, ()) h
theorem o69 {D : Den} {σ : Sig} {F : Nat} (hF : Fits2 Try.prog D σ) (H : H69 D σ F) : (e69 F).Ok Try.prog := by
  refine ⟨fun args r h => ?_, ⟨Try.f69, Try.func69, rfl, rfl⟩⟩
  obtain ⟨⟨x0, x1, _⟩, y, rfl, hy, rfl⟩ := da_open h
  exact contract_run hF (by kernel_rfl) Try.func69 rfl c69 (show 2 ≤ Try.f69.ntmps by decide) (t69 H x0 x1 _ ⟨rfl, rfl⟩ hy)
/- loop.example/g01109/spec.l2Good -/
def A42_2 : AC := (AC.cond (O.t 9) AC.skip (AC.exit 0))
def A42_5 : AC := (AC.cond (O.t 54) (AC.seq (AC.reg [] [(I.mk (some 2) none false (X.v (A.mov (O.k (V.bool false)))))] []) AC.ret) AC.skip)
def A42_4 : AC := (AC.seq (AC.reg [] [(I.mk (some 17) none false (X.v (A.idxA (O.t 4) (O.k (V.int IntKind.i64 (Int.ofNat 0))) 2 1))), (I.mk (some 18) none false (X.v (A.load Sh.s (O.t 17)))), (I.mk (some 19) none false (X.v (A.fld (O.t 1) 0 0))), (I.mk (some 20) none false (X.v (A.load Sh.s (O.t 19)))), (I.mk (some 21) none false (X.v (A.bin BinOp.sub (O.t 20) (O.k (V.int IntKind.i64 (Int.ofNat 1)))))), (I.mk (some 22) none false (X.call (O.k (V.fn 65 [] [])) [(O.t 18), (O.k (V.int IntKind.i64 (Int.ofNat 0))), (O.t 21)])), (I.mk (some 23) none false (X.v (A.un UnOp.not (O.t 22)))), (I.mk (some 24) none false (X.v (A.mov (O.t 23)))), (I.mk (some 25) (some (24, false)) false (X.v (A.idxA (O.t 4) (O.k (V.int IntKind.i64 (Int.ofNat 1))) 2 1))), (I.mk (some 26) (some (24, false)) false (X.v (A.load Sh.s (O.t 25)))), (I.mk (some 27) (some (24, false)) false (X.v (A.fld (O.t 1) 0 0))), (I.mk (some 28) (some (24, false)) false (X.v (A.load Sh.s (O.t 27)))), (I.mk (some 29) (some (24, false)) false (X.v (A.bin BinOp.sub (O.t 28) (O.k (V.int IntKind.i64 (Int.ofNat 1)))))), (I.mk (some 30) (some (24, false)) false (X.call (O.k (V.fn 65 [] [])) [(O.t 26), (O.k (V.int IntKind.i64 (Int.ofNat 0))), (O.t 29)])), (I.mk (some 31) (some (24, false)) false (X.v (A.un UnOp.not (O.t 30)))), (I.mk (some 32) none false (X.v (A.pick (O.t 24) (O.k (V.bool true)) (O.t 31)))), (I.mk (some 33) none false (X.v (A.mov (O.t 32)))), (I.mk (some 34) (some (33, false)) false (X.v (A.idxA (O.t 4) (O.k (V.int IntKind.i64 (Int.ofNat 0))) 2 1))), (I.mk (some 35) (some (33, false)) false (X.v (A.load Sh.s (O.t 34)))), (I.mk (some 36) (some (33, false)) false (X.v (A.idxA (O.t 4) (O.k (V.int IntKind.i64 (Int.ofNat 1))) 2 1))), (I.mk (some 37) (some (33, false)) false (X.v (A.load Sh.s (O.t 36)))), (I.mk (some 38) (some (33, false)) false (X.v (A.bin BinOp.geq (O.t 35) (O.t 37)))), (I.mk (some 39) none false (X.v (A.pick (O.t 33) (O.k (V.bool true)) (O.t 38)))), (I.mk (some 40) none false (X.v (A.mov (O.t 39)))), (I.mk (some 41) (some (40, false)) false (X.v (A.mov (O.t 3)))), (I.mk (some 42) (some (40, false)) false (X.v (A.bin BinOp.gtr (O.t 41) (O.k (V.int IntKind.i64 (Int.ofNat 0)))))), (I.mk (some 43) (some (40, false)) false (X.v (A.mov (O.t 42)))), (I.mk (some 44) (some (43, true)) false (X.v (A.fld (O.t 1) 1 1))), (I.mk (some 45) (some (43, true)) false (X.v (A.load Sh.p (O.t 44)))), (I.mk (some 46) (some (43, true)) false (X.v (A.mov (O.t 3)))), (I.mk (some 47) (some (43, true)) false (X.v (A.bin BinOp.sub (O.t 46) (O.k (V.int IntKind.i64 (Int.ofNat 1)))))), (I.mk (some 48) (some (43, true)) false (X.v (A.idx (O.t 45) (O.t 47) 2))), (I.mk (some 49) (some (43, true)) false (X.v (A.load (Sh.ag [Sh.s, Sh.s]) (O.t 48)))), (I.mk (some 50) (some (43, true)) false (X.v (A.load (Sh.ag [Sh.s, Sh.s]) (O.t 4)))), (I.mk (some 51) (some (43, true)) false (X.call (O.k (V.fn 69 [] [])) [(O.t 49), (O.t 50)])), (I.mk (some 52) (some (43, true)) false (X.v (A.un UnOp.not (O.t 51)))), (I.mk (some 53) (some (40, false)) false (X.v (A.pick (O.t 43) (O.t 52) (O.k (V.bool false))))), (I.mk (some 54) none false (X.v (A.pick (O.t 40) (O.k (V.bool true)) (O.t 53))))] []) A42_5)
def A42_6 : AC := (AC.reg [] [(I.mk (some 10) none false (X.v (A.mov (O.t 3)))), (I.mk (some 11) none false (X.v (A.bin BinOp.add (O.t 10) (O.k (V.int IntKind.i64 (Int.ofNat 1)))))), (I.mk (some 3) none false (X.v (A.mov (O.t 11))))] [])
def A42_3 : AC := (AC.seq (AC.block 1 (AC.seq (AC.reg [.clr [4]] [(I.mk (some 12) none false (X.v (A.fld (O.t 1) 1 1))), (I.mk (some 13) none false (X.v (A.load Sh.p (O.t 12)))), (I.mk (some 14) none false (X.v (A.mov (O.t 3)))), (I.mk (some 15) none false (X.v (A.idx (O.t 13) (O.t 14) 2))), (I.mk (some 16) none false (X.v (A.load (Sh.ag [Sh.s, Sh.s]) (O.t 15)))), (I.mk (some 4) none false (X.alloc (V.agg [(V.int IntKind.i64 (Int.ofNat 0)), (V.int IntKind.i64 (Int.ofNat 0))]))), (I.mk none none false (X.store (Sh.ag [Sh.s, Sh.s]) (O.t 4) (O.t 16)))] []) A42_4)) A42_6)
def A42_1 : AC := (AC.seq (AC.seq (AC.reg [] [(I.mk (some 5) none false (X.v (A.mov (O.t 3)))), (I.mk (some 6) none false (X.v (A.fld (O.t 1) 1 1))), (I.mk (some 7) none false (X.v (A.load Sh.p (O.t 6)))), (I.mk (some 8) none false (X.v (A.len (O.t 7)))), (I.mk (some 9) none false (X.v (A.bin BinOp.lss (O.t 5) (O.t 8))))] []) A42_2) A42_3)
def A42_7 : AC := (AC.seq (AC.reg [] [(I.mk (some 55) none false (X.v (A.fld (O.t 1) 0 0))), (I.mk (some 56) none false (X.v (A.load Sh.s (O.t 55)))), (I.mk (some 57) none false (X.call (O.k (V.fn 65 [] [])) [(O.t 56), (O.k (V.int IntKind.i64 (Int.ofNat 0))), (O.k (V.int IntKind.i64 (Int.ofNat 8)))])), (I.mk (some 2) none false (X.v (A.mov (O.t 57))))] []) AC.ret)
def A42_9 : AC := (AC.block 0 (AC.loop A42_1))
def A42_8 : AC := (AC.seq (AC.seq (AC.reg [] [(I.mk (some 3) none false (X.v (A.mov (O.k (V.int IntKind.i64 (Int.ofNat 0))))))] []) A42_9) A42_7)
def A42 : AC := (AC.seq (AC.reg [.clr [1]] [(I.mk (some 1) none false (X.box (O.t 0))), (I.mk (some 2) none false (X.v (A.mov (O.k (V.bool false)))))] []) A42_8)
def an42 : List An := [{ id := 0, pre := [.clr [1]], ep := [], lin := [], sp := [] }, { id := 4, pre := [.clr [4]], ep := [], lin := [], sp := [] }]
theorem c42 : cC Try.prog Try.f42.ntmps an42 (Try.f42.body.getD .skip) = some A42 := by kernel_rfl
structure H42 (D : Den) (σ : Sig) (F : Nat) : Prop where
  c65 : ∀ (x0 : Int) (x1 : Int) (x2 : Int) r, s_l1In F x0 x1 x2 = some r → D 65 [Enc.enc x0, Enc.enc x1, Enc.enc x2] = some (Enc.enc (r : Bool))
  g65 : σ 65 = some (0, false)
  c69 : ∀ (x0 : (Int × Int)) (x1 : (Int × Int)) r, s_l2Before F x0 x1 = some r → D 69 [Enc.enc x0, Enc.enc x1] = some (Enc.enc (r : Bool))
  g69 : σ 69 = some (0, false)
abbrev R42 (r : Bool) : (Nat → V) → Prop := RR Try.prog [.tmp 2] 0 false (Enc.enc (r : Bool))
section
variable {D : Den} {σ : Sig} {F : Nat} {r : Bool}
def s_l2Good_j1 (F : Nat) (g_1 : (Int × (List (Int × Int)))) (i_12 : Int) (c1 : Int → Option Bool) (t54_28 : Bool) : Option Bool :=
  bif t54_28 then
    some false
  else
    c1 (w64 (i_12 + 1))
theorem t_f42_j1 (H : H42 D σ F) (g_1 : (Int × (List (Int × Int)))) (i_12 : Int) (c1 : Int → Option Bool) (Hc1 : ∀ (i_12 : Int) (s : Nat → V), Facts [(1, (.ref (.bx 1) 0 [] (.agg [(.int .i64 g_1.1), (Enc.enc (g_1.2 : List (Int × Int)))]))), (2, (.bool false)), (3, (.int .i64 i_12))] s → c1 i_12 = some r → Run D σ (R42 r) (.run A42_1 [.lp A42_1, .bk 0, .sq A42_7]) s) (t54_28 : Bool) (s : Nat → V) (hs : Facts [(1, (.ref (.bx 1) 0 [] (.agg [(.int .i64 g_1.1), (Enc.enc (g_1.2 : List (Int × Int)))]))), (2, (.bool false)), (3, (.int .i64 i_12)), (54, (.bool t54_28))] s) (h : s_l2Good_j1 F g_1 i_12 c1 t54_28 = some r) : Run D σ (R42 r) (.nrm [.sq A42_5, .bk 1, .sq A42_6, .lp A42_1, .bk 0, .sq A42_7]) s := by
  unfold s_l2Good_j1 at h
  obtain ⟨h1, h2, h3, h54⟩ := hs
  refine .nsq ?_
  refine run_cond (t := t54_28) h54 h (fun h => ?_) (fun h => ?_)
  · refine .seq ?_
    refine run_reg ?_
    refine e_end ?_
    refine g_v0 (.bool false) rfl rfl ?_
    refine g_end ?_
    refine e_end ?_
    refine renew [(1, (.ref (.bx 1) 0 [] (.agg [(.int .i64 g_1.1), (Enc.enc (g_1.2 : List (Int × Int)))]))), (2, (.bool false)), (3, (.int .i64 i_12))] ⟨h1, rfl, h3⟩ ?_
    rintro s ⟨h1, h2, h3⟩
    refine .nsq ?_
    refine .ret ?_
    have hr := Option.some.inj h
    subst hr
    exact rrA (res_tmp h2) rfl
  · refine .skip ?_
    refine .nbk ?_
    refine .nsq ?_
    refine run_reg ?_
    refine e_end ?_
    refine g_v1 (t := 3) (u := (.int .i64 i_12)) (.int .i64 i_12) h3 rfl rfl ?_
    refine g_v1 (t := 10) (u := (.int .i64 i_12)) (.int .i64 (w64 (i_12 + 1))) rfl rfl rfl ?_
    refine g_v1 (t := 11) (u := (.int .i64 (w64 (i_12 + 1)))) (.int .i64 (w64 (i_12 + 1))) rfl rfl rfl ?_
    refine g_end ?_
    refine e_end ?_
    refine renew [(1, (.ref (.bx 1) 0 [] (.agg [(.int .i64 g_1.1), (Enc.enc (g_1.2 : List (Int × Int)))]))), (2, (.bool false)), (3, (.int .i64 (w64 (i_12 + 1))))] ⟨h1, h2, rfl⟩ ?_
    rintro s ⟨h1, h2, h3⟩
    refine .nlp ?_
    exact Hc1 (w64 (i_12 + 1)) _ ⟨h1, h2, h3⟩ h
def s_l2Good_l1 (F : Nat) (g_1 : (Int × (List (Int × Int))))  : Nat → Int → Option Bool
  | 0, _ => none
  | k + 1, i_12 =>
    bif decide (i_12 < (g_1.2.length : Int)) then
      (idx g_1.2 i_12).bind fun e_23 =>
      (s_l1In F e_23.1 0 (w64 (g_1.1 - 1))).bind fun r_29 =>
      bif (!r_29) then
        s_l2Good_j1 F g_1 i_12 (s_l2Good_l1 F g_1 k) true
      else
        (s_l1In F e_23.2 0 (w64 (g_1.1 - 1))).bind fun r_30 =>
        bif (!r_30) then
          s_l2Good_j1 F g_1 i_12 (s_l2Good_l1 F g_1 k) true
        else
          bif decide (e_23.1 ≥ e_23.2) then
            s_l2Good_j1 F g_1 i_12 (s_l2Good_l1 F g_1 k) true
          else
            bif decide (i_12 > 0) then
              (idx g_1.2 (w64 (i_12 - 1))).bind fun e_31 =>
              (s_l2Before F e_31 e_23).bind fun r_32 =>
              s_l2Good_j1 F g_1 i_12 (s_l2Good_l1 F g_1 k) (!r_32)
            else
              s_l2Good_j1 F g_1 i_12 (s_l2Good_l1 F g_1 k) false
    else
      (s_l1In F g_1.1 0 8).bind fun r_33 =>
      some r_33
theorem t_f42_l1 (H : H42 D σ F) (g_1 : (Int × (List (Int × Int))))  : ∀ (k : Nat) (i_12 : Int) (s : Nat → V), Facts [(1, (.ref (.bx 1) 0 [] (.agg [(.int .i64 g_1.1), (Enc.enc (g_1.2 : List (Int × Int)))]))), (2, (.bool false)), (3, (.int .i64 i_12))] s → s_l2Good_l1 F g_1 k i_12 = some r → Run D σ (R42 r) (.run A42_1 [.lp A42_1, .bk 0, .sq A42_7]) s := by
  intro k
  induction k with
  | zero => intro i_12 s _ h; exact nomatch (h : (none : Option _) = some r)
  | succ k ih =>
    intro i_12 s hs h
    rw [s_l2Good_l1] at h
    obtain ⟨h1, h2, h3⟩ := hs
    refine .seq ?_
    refine .seq ?_
    refine run_reg ?_
    refine e_end ?_
    refine g_v1 (t := 3) (u := (.int .i64 i_12)) (.int .i64 i_12) h3 rfl rfl ?_
    refine g_v1 (t := 1) (u := (.ref (.bx 1) 0 [] (.agg [(.int .i64 g_1.1), (Enc.enc (g_1.2 : List (Int × Int)))]))) (.ref (.bx 1) 0 [1] (Enc.enc (g_1.2 : List (Int × Int)))) h1 rfl rfl ?_
    refine g_v1 (t := 6) (u := (.ref (.bx 1) 0 [1] (Enc.enc (g_1.2 : List (Int × Int))))) (Enc.enc (g_1.2 : List (Int × Int))) rfl rfl rfl ?_
    refine g_v (.int .i64 (g_1.2.length : Int)) (ev_len (xs := g_1.2) rfl) ?_
    refine g_v2 (t1 := 5) (t2 := 8) (u1 := (.int .i64 i_12)) (u2 := (.int .i64 (g_1.2.length : Int))) (.bool (decide (i_12 < (g_1.2.length : Int)))) rfl rfl rfl rfl ?_
    refine g_end ?_
    refine e_end ?_
    refine renew [(1, (.ref (.bx 1) 0 [] (.agg [(.int .i64 g_1.1), (Enc.enc (g_1.2 : List (Int × Int)))]))), (2, (.bool false)), (3, (.int .i64 i_12)), (9, (.bool (decide (i_12 < (g_1.2.length : Int)))))] ⟨h1, h2, h3, rfl⟩ ?_
    rintro s ⟨h1, h2, h3, h9⟩
    refine .nsq ?_
    refine run_cond (t := decide (i_12 < (g_1.2.length : Int))) h9 h (fun h => ?_) (fun h => ?_)
    · refine .skip ?_
      refine .nsq ?_
      refine .seq ?_
      refine .block ?_
      refine .seq ?_
      refine run_reg ?_
      refine e_clr ?_
      refine e_end ?_
      refine g_v1 (t := 1) (u := (.ref (.bx 1) 0 [] (.agg [(.int .i64 g_1.1), (Enc.enc (g_1.2 : List (Int × Int)))]))) (.ref (.bx 1) 0 [1] (Enc.enc (g_1.2 : List (Int × Int)))) (keep_clear (s := s) (pk := [4]) h1 rfl (map_bx rfl (map_agg (maps_cons rfl (maps_cons (Enc.map_enc _ (g_1.2 : List (Int × Int))) maps_nil))))) rfl rfl ?_
      refine g_v1 (t := 12) (u := (.ref (.bx 1) 0 [1] (Enc.enc (g_1.2 : List (Int × Int))))) (Enc.enc (g_1.2 : List (Int × Int))) rfl rfl rfl ?_
      refine g_v1 (t := 3) (u := (.int .i64 i_12)) (.int .i64 i_12) (keep_clear (s := s) (pk := [4]) h3 rfl rfl) rfl rfl ?_
      obtain ⟨e_23, E_e_23, h⟩ := bind_some h
      refine g_v (.ref .sh 0 [] (.agg [(.int .i64 e_23.1), (.int .i64 e_23.2)])) (ev_idx (t := .sh) (lo := 0) (xs := g_1.2) rfl rfl E_e_23 rfl rfl) ?_
      refine g_v1 (t := 15) (u := (.ref .sh 0 [] (.agg [(.int .i64 e_23.1), (.int .i64 e_23.2)]))) (.agg [(.int .i64 e_23.1), (.int .i64 e_23.2)]) rfl rfl rfl ?_
      refine g_alloc (gone_clear (s := s) (pk := [4]) (t := 4) rfl) ?_
      refine g_store (.agg [(.int .i64 e_23.1), (.int .i64 e_23.2)]) (rd_of rfl rfl) (rd_of rfl rfl) (by refine ⟨by decide, by decide, rfl, rfl, rfl, ?_⟩; first | rfl | simp [V.toks, V.tokss, Enc.toks_enc]) ?_
      refine g_end ?_
      refine e_end ?_
      refine renew [(1, (.ref (.bx 1) 0 [] (.agg [(.int .i64 g_1.1), (Enc.enc (g_1.2 : List (Int × Int)))]))), (2, (.bool false)), (3, (.int .i64 i_12)), (4, (.ref (.bx 4) 0 [] (.agg [(.int .i64 e_23.1), (.int .i64 e_23.2)])))] ⟨(keep_mut (keep_clear (s := s) (pk := [4]) h1 rfl (map_bx rfl (map_agg (maps_cons rfl (maps_cons (Enc.map_enc _ (g_1.2 : List (Int × Int))) maps_nil))))) (mut_ref_ne rfl rfl (mut_agg (muts_cons rfl (muts_cons (Enc.mut_enc _ _ _ _ (g_1.2 : List (Int × Int))) rfl))))), (keep_mut (keep_clear (s := s) (pk := [4]) h2 rfl rfl) rfl), (keep_mut (keep_clear (s := s) (pk := [4]) h3 rfl rfl) rfl), (keep_mut rfl rfl)⟩ ?_
      rintro s ⟨h1, h2, h3, h4⟩
      refine .nsq ?_
      refine .seq ?_
      refine run_reg ?_
      refine e_end ?_
      refine g_v1 (t := 4) (u := (.ref (.bx 4) 0 [] (.agg [(.int .i64 e_23.1), (.int .i64 e_23.2)]))) (.ref (.bx 4) 0 [0] (.int .i64 e_23.1)) h4 rfl rfl ?_
      refine g_v1 (t := 17) (u := (.ref (.bx 4) 0 [0] (.int .i64 e_23.1))) (.int .i64 e_23.1) rfl rfl rfl ?_
      refine g_v1 (t := 1) (u := (.ref (.bx 1) 0 [] (.agg [(.int .i64 g_1.1), (Enc.enc (g_1.2 : List (Int × Int)))]))) (.ref (.bx 1) 0 [0] (.int .i64 g_1.1)) h1 rfl rfl ?_
      refine g_v1 (t := 19) (u := (.ref (.bx 1) 0 [0] (.int .i64 g_1.1))) (.int .i64 g_1.1) rfl rfl rfl ?_
      refine g_v1 (t := 20) (u := (.int .i64 g_1.1)) (.int .i64 (w64 (g_1.1 - 1))) rfl rfl rfl ?_
      obtain ⟨r_29, E_r_29, h⟩ := bind_some h
      refine g_call (m := 0) (al := false) (r := (Enc.enc (r_29 : Bool))) [Enc.enc (e_23.1 : Int), Enc.enc (0 : Int), Enc.enc (w64 (g_1.1 - 1) : Int)] (ta_cons (v := (.int .i64 e_23.1)) rfl rfl rfl (ta_cons (v := (.int .i64 0)) rfl rfl rfl (ta_cons (v := (.int .i64 (w64 (g_1.1 - 1)))) rfl rfl rfl ta_nil))) (H.c65 _ _ _ _ E_r_29) H.g65 rfl rfl rfl rfl ?_
      refine g_v1 (t := 22) (u := (.bool r_29)) (.bool (!r_29)) rfl rfl rfl ?_
      refine g_v1 (t := 23) (u := (.bool (!r_29))) (.bool (!r_29)) rfl rfl rfl ?_
      refine split_on (c := (!r_29)) h (fun hg8 h => ?_) (fun hg8 h => ?_)
      · refine g_no (Eq.trans (b := .bool (!r_29)) rfl (congrArg V.bool hg8)) ?_
        refine g_no (Eq.trans (b := .bool (!r_29)) rfl (congrArg V.bool hg8)) ?_
        refine g_no (Eq.trans (b := .bool (!r_29)) rfl (congrArg V.bool hg8)) ?_
        refine g_no (Eq.trans (b := .bool (!r_29)) rfl (congrArg V.bool hg8)) ?_
        refine g_no (Eq.trans (b := .bool (!r_29)) rfl (congrArg V.bool hg8)) ?_
        refine g_no (Eq.trans (b := .bool (!r_29)) rfl (congrArg V.bool hg8)) ?_
        refine g_no (Eq.trans (b := .bool (!r_29)) rfl (congrArg V.bool hg8)) ?_
        refine g_v2 (t1 := 24) (t2 := 31) (u1 := (.bool true)) (u2 := (.tup [])) (.bool true) (Eq.trans (b := .bool (!r_29)) rfl (congrArg V.bool hg8)) rfl rfl rfl ?_
        refine g_v1 (t := 32) (u := (.bool true)) (.bool true) rfl rfl rfl ?_
        refine g_no rfl ?_
        refine g_no rfl ?_
        refine g_no rfl ?_
        refine g_no rfl ?_
        refine g_no rfl ?_
        refine g_v2 (t1 := 33) (t2 := 38) (u1 := (.bool true)) (u2 := (.tup [])) (.bool true) rfl rfl rfl rfl ?_
        refine g_v1 (t := 39) (u := (.bool true)) (.bool true) rfl rfl rfl ?_
        refine g_no rfl ?_
        refine g_no rfl ?_
        refine g_no rfl ?_
        refine g_skip rfl ?_
        refine g_skip rfl ?_
        refine g_skip rfl ?_
        refine g_skip rfl ?_
        refine g_skip rfl ?_
        refine g_skip rfl ?_
        refine g_skip rfl ?_
        refine g_skip rfl ?_
        refine g_skip rfl ?_
        refine g_no rfl ?_
        refine g_v2 (t1 := 40) (t2 := 53) (u1 := (.bool true)) (u2 := (.tup [])) (.bool true) rfl rfl rfl rfl ?_
        refine g_end ?_
        refine e_end ?_
        refine renew [(1, (.ref (.bx 1) 0 [] (.agg [(.int .i64 g_1.1), (Enc.enc (g_1.2 : List (Int × Int)))]))), (2, (.bool false)), (3, (.int .i64 i_12)), (54, (.bool true))] ⟨h1, h2, h3, rfl⟩ ?_
        rintro s ⟨h1, h2, h3, h54⟩
        exact t_f42_j1 H g_1 i_12 (s_l2Good_l1 F g_1 k) ih true _ ⟨h1, h2, h3, h54⟩ h
      · refine g_yes (Eq.trans (b := .bool (!r_29)) rfl (congrArg V.bool hg8)) (g_v1 (t := 4) (u := (.ref (.bx 4) 0 [] (.agg [(.int .i64 e_23.1), (.int .i64 e_23.2)]))) (.ref (.bx 4) 0 [1] (.int .i64 e_23.2)) h4 rfl rfl ?_)
        refine g_yes (Eq.trans (b := .bool (!r_29)) rfl (congrArg V.bool hg8)) (g_v1 (t := 25) (u := (.ref (.bx 4) 0 [1] (.int .i64 e_23.2))) (.int .i64 e_23.2) rfl rfl rfl ?_)
        refine g_yes (Eq.trans (b := .bool (!r_29)) rfl (congrArg V.bool hg8)) (g_v1 (t := 1) (u := (.ref (.bx 1) 0 [] (.agg [(.int .i64 g_1.1), (Enc.enc (g_1.2 : List (Int × Int)))]))) (.ref (.bx 1) 0 [0] (.int .i64 g_1.1)) h1 rfl rfl ?_)
        refine g_yes (Eq.trans (b := .bool (!r_29)) rfl (congrArg V.bool hg8)) (g_v1 (t := 27) (u := (.ref (.bx 1) 0 [0] (.int .i64 g_1.1))) (.int .i64 g_1.1) rfl rfl rfl ?_)
        refine g_yes (Eq.trans (b := .bool (!r_29)) rfl (congrArg V.bool hg8)) (g_v1 (t := 28) (u := (.int .i64 g_1.1)) (.int .i64 (w64 (g_1.1 - 1))) rfl rfl rfl ?_)
        obtain ⟨r_30, E_r_30, h⟩ := bind_some h
        refine g_yes (Eq.trans (b := .bool (!r_29)) rfl (congrArg V.bool hg8)) (g_call (m := 0) (al := false) (r := (Enc.enc (r_30 : Bool))) [Enc.enc (e_23.2 : Int), Enc.enc (0 : Int), Enc.enc (w64 (g_1.1 - 1) : Int)] (ta_cons (v := (.int .i64 e_23.2)) rfl rfl rfl (ta_cons (v := (.int .i64 0)) rfl rfl rfl (ta_cons (v := (.int .i64 (w64 (g_1.1 - 1)))) rfl rfl rfl ta_nil))) (H.c65 _ _ _ _ E_r_30) H.g65 rfl rfl rfl rfl ?_)
        refine g_yes (Eq.trans (b := .bool (!r_29)) rfl (congrArg V.bool hg8)) (g_v1 (t := 30) (u := (.bool r_30)) (.bool (!r_30)) rfl rfl rfl ?_)
        refine g_v2 (t1 := 24) (t2 := 31) (u1 := (.bool false)) (u2 := (.bool (!r_30))) (.bool (!r_30)) (Eq.trans (b := .bool (!r_29)) rfl (congrArg V.bool hg8)) rfl rfl rfl ?_
        refine g_v1 (t := 32) (u := (.bool (!r_30))) (.bool (!r_30)) rfl rfl rfl ?_
        refine split_on (c := (!r_30)) h (fun hg17 h => ?_) (fun hg17 h => ?_)
        · refine g_no (Eq.trans (b := .bool (!r_30)) rfl (congrArg V.bool hg17)) ?_
          refine g_no (Eq.trans (b := .bool (!r_30)) rfl (congrArg V.bool hg17)) ?_
          refine g_no (Eq.trans (b := .bool (!r_30)) rfl (congrArg V.bool hg17)) ?_
          refine g_no (Eq.trans (b := .bool (!r_30)) rfl (congrArg V.bool hg17)) ?_
          refine g_no (Eq.trans (b := .bool (!r_30)) rfl (congrArg V.bool hg17)) ?_
          refine g_v2 (t1 := 33) (t2 := 38) (u1 := (.bool true)) (u2 := (.tup [])) (.bool true) (Eq.trans (b := .bool (!r_30)) rfl (congrArg V.bool hg17)) rfl rfl rfl ?_
          refine g_v1 (t := 39) (u := (.bool true)) (.bool true) rfl rfl rfl ?_
          refine g_no rfl ?_
          refine g_no rfl ?_
          refine g_no rfl ?_
          refine g_skip rfl ?_
          refine g_skip rfl ?_
          refine g_skip rfl ?_
          refine g_skip rfl ?_
          refine g_skip rfl ?_
          refine g_skip rfl ?_
          refine g_skip rfl ?_
          refine g_skip rfl ?_
          refine g_skip rfl ?_
          refine g_no rfl ?_
          refine g_v2 (t1 := 40) (t2 := 53) (u1 := (.bool true)) (u2 := (.tup [])) (.bool true) rfl rfl rfl rfl ?_
          refine g_end ?_
          refine e_end ?_
          refine renew [(1, (.ref (.bx 1) 0 [] (.agg [(.int .i64 g_1.1), (Enc.enc (g_1.2 : List (Int × Int)))]))), (2, (.bool false)), (3, (.int .i64 i_12)), (54, (.bool true))] ⟨h1, h2, h3, rfl⟩ ?_
          rintro s ⟨h1, h2, h3, h54⟩
          exact t_f42_j1 H g_1 i_12 (s_l2Good_l1 F g_1 k) ih true _ ⟨h1, h2, h3, h54⟩ h
        · refine g_yes (Eq.trans (b := .bool (!r_30)) rfl (congrArg V.bool hg17)) (g_v1 (t := 4) (u := (.ref (.bx 4) 0 [] (.agg [(.int .i64 e_23.1), (.int .i64 e_23.2)]))) (.ref (.bx 4) 0 [0] (.int .i64 e_23.1)) h4 rfl rfl ?_)
          refine g_yes (Eq.trans (b := .bool (!r_30)) rfl (congrArg V.bool hg17)) (g_v1 (t := 34) (u := (.ref (.bx 4) 0 [0] (.int .i64 e_23.1))) (.int .i64 e_23.1) rfl rfl rfl ?_)
          refine g_yes (Eq.trans (b := .bool (!r_30)) rfl (congrArg V.bool hg17)) (g_v1 (t := 4) (u := (.ref (.bx 4) 0 [] (.agg [(.int .i64 e_23.1), (.int .i64 e_23.2)]))) (.ref (.bx 4) 0 [1] (.int .i64 e_23.2)) h4 rfl rfl ?_)
          refine g_yes (Eq.trans (b := .bool (!r_30)) rfl (congrArg V.bool hg17)) (g_v1 (t := 36) (u := (.ref (.bx 4) 0 [1] (.int .i64 e_23.2))) (.int .i64 e_23.2) rfl rfl rfl ?_)
          refine g_yes (Eq.trans (b := .bool (!r_30)) rfl (congrArg V.bool hg17)) (g_v2 (t1 := 35) (t2 := 37) (u1 := (.int .i64 e_23.1)) (u2 := (.int .i64 e_23.2)) (.bool (decide (e_23.1 ≥ e_23.2))) rfl rfl rfl rfl ?_)
          refine g_v2 (t1 := 33) (t2 := 38) (u1 := (.bool false)) (u2 := (.bool (decide (e_23.1 ≥ e_23.2)))) (.bool (decide (e_23.1 ≥ e_23.2))) (Eq.trans (b := .bool (!r_30)) rfl (congrArg V.bool hg17)) rfl rfl rfl ?_
          refine g_v1 (t := 39) (u := (.bool (decide (e_23.1 ≥ e_23.2)))) (.bool (decide (e_23.1 ≥ e_23.2))) rfl rfl rfl ?_
          refine split_on (c := decide (e_23.1 ≥ e_23.2)) h (fun hg24 h => ?_) (fun hg24 h => ?_)
          · refine g_no (Eq.trans (b := .bool (decide (e_23.1 ≥ e_23.2))) rfl (congrArg V.bool hg24)) ?_
            refine g_no (Eq.trans (b := .bool (decide (e_23.1 ≥ e_23.2))) rfl (congrArg V.bool hg24)) ?_
            refine g_no (Eq.trans (b := .bool (decide (e_23.1 ≥ e_23.2))) rfl (congrArg V.bool hg24)) ?_
            refine g_skip rfl ?_
            refine g_skip rfl ?_
            refine g_skip rfl ?_
            refine g_skip rfl ?_
            refine g_skip rfl ?_
            refine g_skip rfl ?_
            refine g_skip rfl ?_
            refine g_skip rfl ?_
            refine g_skip rfl ?_
            refine g_no (Eq.trans (b := .bool (decide (e_23.1 ≥ e_23.2))) rfl (congrArg V.bool hg24)) ?_
            refine g_v2 (t1 := 40) (t2 := 53) (u1 := (.bool true)) (u2 := (.tup [])) (.bool true) (Eq.trans (b := .bool (decide (e_23.1 ≥ e_23.2))) rfl (congrArg V.bool hg24)) rfl rfl rfl ?_
            refine g_end ?_
            refine e_end ?_
            refine renew [(1, (.ref (.bx 1) 0 [] (.agg [(.int .i64 g_1.1), (Enc.enc (g_1.2 : List (Int × Int)))]))), (2, (.bool false)), (3, (.int .i64 i_12)), (54, (.bool true))] ⟨h1, h2, h3, rfl⟩ ?_
            rintro s ⟨h1, h2, h3, h54⟩
            exact t_f42_j1 H g_1 i_12 (s_l2Good_l1 F g_1 k) ih true _ ⟨h1, h2, h3, h54⟩ h
          · refine g_yes (Eq.trans (b := .bool (decide (e_23.1 ≥ e_23.2))) rfl (congrArg V.bool hg24)) (g_v1 (t := 3) (u := (.int .i64 i_12)) (.int .i64 i_12) h3 rfl rfl ?_)
            refine g_yes (Eq.trans (b := .bool (decide (e_23.1 ≥ e_23.2))) rfl (congrArg V.bool hg24)) (g_v1 (t := 41) (u := (.int .i64 i_12)) (.bool (decide (i_12 > 0))) rfl rfl rfl ?_)
            refine g_yes (Eq.trans (b := .bool (decide (e_23.1 ≥ e_23.2))) rfl (congrArg V.bool hg24)) (g_v1 (t := 42) (u := (.bool (decide (i_12 > 0)))) (.bool (decide (i_12 > 0))) rfl rfl rfl ?_)
            refine split_on (c := decide (i_12 > 0)) h (fun hg27 h => ?_) (fun hg27 h => ?_)
            · refine g_yes (Eq.trans (b := .bool (decide (i_12 > 0))) rfl (congrArg V.bool hg27)) (g_v1 (t := 1) (u := (.ref (.bx 1) 0 [] (.agg [(.int .i64 g_1.1), (Enc.enc (g_1.2 : List (Int × Int)))]))) (.ref (.bx 1) 0 [1] (Enc.enc (g_1.2 : List (Int × Int)))) h1 rfl rfl ?_)
              refine g_yes (Eq.trans (b := .bool (decide (i_12 > 0))) rfl (congrArg V.bool hg27)) (g_v1 (t := 44) (u := (.ref (.bx 1) 0 [1] (Enc.enc (g_1.2 : List (Int × Int))))) (Enc.enc (g_1.2 : List (Int × Int))) rfl rfl rfl ?_)
              refine g_yes (Eq.trans (b := .bool (decide (i_12 > 0))) rfl (congrArg V.bool hg27)) (g_v1 (t := 3) (u := (.int .i64 i_12)) (.int .i64 i_12) h3 rfl rfl ?_)
              refine g_yes (Eq.trans (b := .bool (decide (i_12 > 0))) rfl (congrArg V.bool hg27)) (g_v1 (t := 46) (u := (.int .i64 i_12)) (.int .i64 (w64 (i_12 - 1))) rfl rfl rfl ?_)
              obtain ⟨e_31, E_e_31, h⟩ := bind_some h
              refine g_yes (Eq.trans (b := .bool (decide (i_12 > 0))) rfl (congrArg V.bool hg27)) (g_v (.ref .sh 0 [] (.agg [(.int .i64 e_31.1), (.int .i64 e_31.2)])) (ev_idx (t := .sh) (lo := 0) (xs := g_1.2) rfl rfl E_e_31 rfl rfl) ?_)
              refine g_yes (Eq.trans (b := .bool (decide (i_12 > 0))) rfl (congrArg V.bool hg27)) (g_v1 (t := 48) (u := (.ref .sh 0 [] (.agg [(.int .i64 e_31.1), (.int .i64 e_31.2)]))) (.agg [(.int .i64 e_31.1), (.int .i64 e_31.2)]) rfl rfl rfl ?_)
              refine g_yes (Eq.trans (b := .bool (decide (i_12 > 0))) rfl (congrArg V.bool hg27)) (g_v1 (t := 4) (u := (.ref (.bx 4) 0 [] (.agg [(.int .i64 e_23.1), (.int .i64 e_23.2)]))) (.agg [(.int .i64 e_23.1), (.int .i64 e_23.2)]) h4 rfl rfl ?_)
              obtain ⟨r_32, E_r_32, h⟩ := bind_some h
              refine g_yes (Eq.trans (b := .bool (decide (i_12 > 0))) rfl (congrArg V.bool hg27)) (g_call (m := 0) (al := false) (r := (Enc.enc (r_32 : Bool))) [Enc.enc (e_31 : (Int × Int)), Enc.enc (e_23 : (Int × Int))] (ta_cons (v := (.agg [(.int .i64 e_31.1), (.int .i64 e_31.2)])) rfl rfl (Enc.erase_enc (e_31 : (Int × Int))) (ta_cons (v := (.agg [(.int .i64 e_23.1), (.int .i64 e_23.2)])) rfl rfl (Enc.erase_enc (e_23 : (Int × Int))) ta_nil)) (H.c69 _ _ _ E_r_32) H.g69 rfl rfl rfl rfl ?_)
              refine g_yes (Eq.trans (b := .bool (decide (i_12 > 0))) rfl (congrArg V.bool hg27)) (g_v1 (t := 51) (u := (.bool r_32)) (.bool (!r_32)) rfl rfl rfl ?_)
              refine g_yes (Eq.trans (b := .bool (decide (e_23.1 ≥ e_23.2))) rfl (congrArg V.bool hg24)) (g_v2 (t1 := 43) (t2 := 52) (u1 := (.bool true)) (u2 := (.bool (!r_32))) (.bool (!r_32)) (Eq.trans (b := .bool (decide (i_12 > 0))) rfl (congrArg V.bool hg27)) rfl rfl rfl ?_)
              refine g_v2 (t1 := 40) (t2 := 53) (u1 := (.bool false)) (u2 := (.bool (!r_32))) (.bool (!r_32)) (Eq.trans (b := .bool (decide (e_23.1 ≥ e_23.2))) rfl (congrArg V.bool hg24)) rfl rfl rfl ?_
              refine g_end ?_
              refine e_end ?_
              refine renew [(1, (.ref (.bx 1) 0 [] (.agg [(.int .i64 g_1.1), (Enc.enc (g_1.2 : List (Int × Int)))]))), (2, (.bool false)), (3, (.int .i64 i_12)), (54, (.bool (!r_32)))] ⟨h1, h2, h3, rfl⟩ ?_
              rintro s ⟨h1, h2, h3, h54⟩
              exact t_f42_j1 H g_1 i_12 (s_l2Good_l1 F g_1 k) ih (!r_32) _ ⟨h1, h2, h3, h54⟩ h
            · refine g_no (Eq.trans (b := .bool (decide (i_12 > 0))) rfl (congrArg V.bool hg27)) ?_
              refine g_no (Eq.trans (b := .bool (decide (i_12 > 0))) rfl (congrArg V.bool hg27)) ?_
              refine g_no (Eq.trans (b := .bool (decide (i_12 > 0))) rfl (congrArg V.bool hg27)) ?_
              refine g_no (Eq.trans (b := .bool (decide (i_12 > 0))) rfl (congrArg V.bool hg27)) ?_
              refine g_no (Eq.trans (b := .bool (decide (i_12 > 0))) rfl (congrArg V.bool hg27)) ?_
              refine g_no (Eq.trans (b := .bool (decide (i_12 > 0))) rfl (congrArg V.bool hg27)) ?_
              refine g_no (Eq.trans (b := .bool (decide (i_12 > 0))) rfl (congrArg V.bool hg27)) ?_
              refine g_no (Eq.trans (b := .bool (decide (i_12 > 0))) rfl (congrArg V.bool hg27)) ?_
              refine g_no (Eq.trans (b := .bool (decide (i_12 > 0))) rfl (congrArg V.bool hg27)) ?_
              refine g_yes (Eq.trans (b := .bool (decide (e_23.1 ≥ e_23.2))) rfl (congrArg V.bool hg24)) (g_v2 (t1 := 43) (t2 := 52) (u1 := (.bool false)) (u2 := (.tup [])) (.bool false) (Eq.trans (b := .bool (decide (i_12 > 0))) rfl (congrArg V.bool hg27)) rfl rfl rfl ?_)
              refine g_v2 (t1 := 40) (t2 := 53) (u1 := (.bool false)) (u2 := (.bool false)) (.bool false) (Eq.trans (b := .bool (decide (e_23.1 ≥ e_23.2))) rfl (congrArg V.bool hg24)) rfl rfl rfl ?_
              refine g_end ?_
              refine e_end ?_
              refine renew [(1, (.ref (.bx 1) 0 [] (.agg [(.int .i64 g_1.1), (Enc.enc (g_1.2 : List (Int × Int)))]))), (2, (.bool false)), (3, (.int .i64 i_12)), (54, (.bool false))] ⟨h1, h2, h3, rfl⟩ ?_
              rintro s ⟨h1, h2, h3, h54⟩
              exact t_f42_j1 H g_1 i_12 (s_l2Good_l1 F g_1 k) ih false _ ⟨h1, h2, h3, h54⟩ h
    · refine .exit ?_
      refine .esq ?_
      refine .elp ?_
      refine .ebk ?_
      refine .nsq ?_
      refine .seq ?_
      refine run_reg ?_
      refine e_end ?_
      refine g_v1 (t := 1) (u := (.ref (.bx 1) 0 [] (.agg [(.int .i64 g_1.1), (Enc.enc (g_1.2 : List (Int × Int)))]))) (.ref (.bx 1) 0 [0] (.int .i64 g_1.1)) h1 rfl rfl ?_
      refine g_v1 (t := 55) (u := (.ref (.bx 1) 0 [0] (.int .i64 g_1.1))) (.int .i64 g_1.1) rfl rfl rfl ?_
      obtain ⟨r_33, E_r_33, h⟩ := bind_some h
      refine g_call (m := 0) (al := false) (r := (Enc.enc (r_33 : Bool))) [Enc.enc (g_1.1 : Int), Enc.enc (0 : Int), Enc.enc (8 : Int)] (ta_cons (v := (.int .i64 g_1.1)) rfl rfl rfl (ta_cons (v := (.int .i64 0)) rfl rfl rfl (ta_cons (v := (.int .i64 8)) rfl rfl rfl ta_nil))) (H.c65 _ _ _ _ E_r_33) H.g65 rfl rfl rfl rfl ?_
      refine g_v1 (t := 57) (u := (.bool r_33)) (.bool r_33) rfl rfl rfl ?_
      refine g_end ?_
      refine e_end ?_
      refine renew [(2, (.bool r_33))] rfl ?_
      rintro s h2
      refine .nsq ?_
      refine .ret ?_
      have hr := Option.some.inj h
      subst hr
      exact rrA (res_tmp h2) rfl
def s_l2Good (F : Nat) (g_1 : (Int × (List (Int × Int)))) : Option Bool :=
  s_l2Good_l1 F g_1 F 0
theorem t42 (H : H42 D σ F) (g_1 : (Int × (List (Int × Int)))) (s : Nat → V) (hs : Facts [(0, (.agg [(.int .i64 g_1.1), (Enc.enc (g_1.2 : List (Int × Int)))]))] s) (h : s_l2Good F g_1 = some r) : Run D σ (R42 r) (.run A42 []) s := by
  unfold s_l2Good at h
  have h0 := hs
  refine .seq ?_
  refine run_reg ?_
  refine e_clr ?_
  refine e_end ?_
  refine g_box (.agg [(.int .i64 g_1.1), (Enc.enc (g_1.2 : List (Int × Int)))]) (rd_of (keep_clear (s := s) (pk := [1]) h0 rfl (map_agg (maps_cons rfl (maps_cons (Enc.map_enc _ (g_1.2 : List (Int × Int))) maps_nil)))) rfl) (gone_clear (s := s) (pk := [1]) (t := 1) rfl) rfl ?_
  refine g_v0 (.bool false) rfl rfl ?_
  refine g_end ?_
  refine e_end ?_
  refine renew [(1, (.ref (.bx 1) 0 [] (.agg [(.int .i64 g_1.1), (Enc.enc (g_1.2 : List (Int × Int)))]))), (2, (.bool false))] ⟨rfl, rfl⟩ ?_
  rintro s ⟨h1, h2⟩
  refine .nsq ?_
  refine .seq ?_
  refine .seq ?_
  refine run_reg ?_
  refine e_end ?_
  refine g_v0 (.int .i64 0) rfl rfl ?_
  refine g_end ?_
  refine e_end ?_
  refine renew [(1, (.ref (.bx 1) 0 [] (.agg [(.int .i64 g_1.1), (Enc.enc (g_1.2 : List (Int × Int)))]))), (2, (.bool false)), (3, (.int .i64 0))] ⟨h1, h2, rfl⟩ ?_
  rintro s ⟨h1, h2, h3⟩
  refine .nsq ?_
  refine .block ?_
  refine .loop ?_
  exact t_f42_l1 H g_1 F 0 _ ⟨h1, h2, h3⟩ h
end
def e42 (F : Nat) : Ent := ⟨42, da (fun (x : ((Int × (List (Int × Int))) × Unit)) => s_l2Good F x.1) (fun (r : Bool) => (Enc.enc (r : Bool))), 0, false, selF []⟩
theorem p42 {F : Nat} {x0 : (Int × (List (Int × Int)))} {r : Bool} (h : s_l2Good F x0 = some r) : (e42 F).den [Enc.enc x0] = some (Enc.enc (r : Bool)) := da_put (f := fun (x : ((Int × (List (Int × Int))) × Unit)) => s_l2Good F x.1) (t := fun (r : Bool) => (Enc.enc (r : Bool))) (x0, ()) h
theorem o42 {D : Den} {σ : Sig} {F : Nat} (hF : Fits2 Try.prog D σ) (H : H42 D σ F) : (e42 F).Ok Try.prog := by
  refine ⟨fun args r h => ?_, ⟨Try.f42, Try.func42, rfl, rfl⟩⟩
  obtain ⟨⟨x0, _⟩, y, rfl, hy, rfl⟩ := da_open h
  exact contract_run hF (by kernel_rfl) Try.func42 rfl c42 (show 1 ≤ Try.f42.ntmps by decide) (t42 H x0 _ rfl hy)
/- loop.example/g01109/spec.l1Rising -/
def A120_2 : AC := (AC.cond (O.t 11) AC.skip (AC.exit 0))
def A120_4 : AC := (AC.cond (O.t 37) (AC.seq (AC.reg [] [(I.mk (some 6) none false (X.v (A.mov (O.k (V.bool false)))))] []) AC.ret) AC.skip)
def A120_5 : AC := (AC.reg [] [(I.mk (some 12) none false (X.v (A.mov (O.t 7)))), (I.mk (some 13) none false (X.v (A.bin BinOp.add (O.t 12) (O.k (V.int IntKind.i64 (Int.ofNat 1)))))), (I.mk (some 7) none false (X.v (A.mov (O.t 13))))] [])
def A120_3 : AC := (AC.seq (AC.block 1 (AC.seq (AC.reg [] [(I.mk (some 14) none false (X.v (A.mov (O.t 0)))), (I.mk (some 15) none false (X.v (A.mov (O.t 7)))), (I.mk (some 16) none false (X.v (A.idx (O.t 14) (O.t 15) 1))), (I.mk (some 17) none false (X.v (A.load Sh.s (O.t 16)))), (I.mk (some 18) none false (X.v (A.mov (O.t 1)))), (I.mk (some 19) none false (X.v (A.mov (O.t 2)))), (I.mk (some 20) none false (X.call (O.k (V.fn 65 [] [])) [(O.t 17), (O.t 18), (O.t 19)])), (I.mk (some 21) none false (X.v (A.un UnOp.not (O.t 20)))), (I.mk (some 22) none false (X.v (A.mov (O.t 21)))), (I.mk (some 23) (some (22, false)) false (X.v (A.mov (O.t 7)))), (I.mk (some 24) (some (22, false)) false (X.v (A.bin BinOp.gtr (O.t 23) (O.k (V.int IntKind.i64 (Int.ofNat 0)))))), (I.mk (some 25) (some (22, false)) false (X.v (A.mov (O.t 24)))), (I.mk (some 26) (some (25, true)) false (X.v (A.mov (O.t 0)))), (I.mk (some 27) (some (25, true)) false (X.v (A.mov (O.t 7)))), (I.mk (some 28) (some (25, true)) false (X.v (A.bin BinOp.sub (O.t 27) (O.k (V.int IntKind.i64 (Int.ofNat 1)))))), (I.mk (some 29) (some (25, true)) false (X.v (A.idx (O.t 26) (O.t 28) 1))), (I.mk (some 30) (some (25, true)) false (X.v (A.load Sh.s (O.t 29)))), (I.mk (some 31) (some (25, true)) false (X.v (A.mov (O.t 0)))), (I.mk (some 32) (some (25, true)) false (X.v (A.mov (O.t 7)))), (I.mk (some 33) (some (25, true)) false (X.v (A.idx (O.t 31) (O.t 32) 1))), (I.mk (some 34) (some (25, true)) false (X.v (A.load Sh.s (O.t 33)))), (I.mk (some 35) (some (25, true)) false (X.v (A.bin BinOp.geq (O.t 30) (O.t 34)))), (I.mk (some 36) (some (22, false)) false (X.v (A.pick (O.t 25) (O.t 35) (O.k (V.bool false))))), (I.mk (some 37) none false (X.v (A.pick (O.t 22) (O.k (V.bool true)) (O.t 36))))] []) A120_4)) A120_5)
def A120_1 : AC := (AC.seq (AC.seq (AC.reg [] [(I.mk (some 8) none false (X.v (A.mov (O.t 7)))), (I.mk (some 9) none false (X.v (A.mov (O.t 0)))), (I.mk (some 10) none false (X.v (A.len (O.t 9)))), (I.mk (some 11) none false (X.v (A.bin BinOp.lss (O.t 8) (O.t 10))))] []) A120_2) A120_3)
def A120_6 : AC := (AC.seq (AC.reg [] [(I.mk (some 6) none false (X.v (A.mov (O.k (V.bool true)))))] []) AC.ret)
def A120_8 : AC := (AC.block 0 (AC.loop A120_1))
def A120_7 : AC := (AC.seq (AC.seq (AC.reg [] [(I.mk (some 7) none false (X.v (A.mov (O.k (V.int IntKind.i64 (Int.ofNat 0))))))] []) A120_8) A120_6)
def A120 : AC := (AC.seq (AC.reg [] [(I.mk (some 6) none false (X.v (A.mov (O.k (V.bool false)))))] []) A120_7)
def an120 : List An := []
theorem c120 : cC Try.prog Try.f120.ntmps an120 (Try.f120.body.getD .skip) = some A120 := by kernel_rfl
structure H120 (D : Den) (σ : Sig) (F : Nat) : Prop where
  c65 : ∀ (x0 : Int) (x1 : Int) (x2 : Int) r, s_l1In F x0 x1 x2 = some r → D 65 [Enc.enc x0, Enc.enc x1, Enc.enc x2] = some (Enc.enc (r : Bool))
  g65 : σ 65 = some (0, false)
abbrev R120 (r : Bool) : (Nat → V) → Prop := RR Try.prog [.tmp 6] 0 false (Enc.enc (r : Bool))
section
variable {D : Den} {σ : Sig} {F : Nat} {r : Bool}
def s_l1Rising_j1 (F : Nat) (l_1 : (List Int)) (lo_2 : Int) (hi_3 : Int) (i_13 : Int) (c1 : Int → Option Bool) (t37_27 : Bool) : Option Bool :=
  bif t37_27 then
    some false
  else
    c1 (w64 (i_13 + 1))
theorem t_f120_j1 (H : H120 D σ F) (l_1 : (List Int)) (lo_2 : Int) (hi_3 : Int) (i_13 : Int) (c1 : Int → Option Bool) (Hc1 : ∀ (i_13 : Int) (s : Nat → V), Facts [(0, (Enc.enc (l_1 : List Int))), (1, (.int .i64 lo_2)), (2, (.int .i64 hi_3)), (6, (.bool false)), (7, (.int .i64 i_13))] s → c1 i_13 = some r → Run D σ (R120 r) (.run A120_1 [.lp A120_1, .bk 0, .sq A120_6]) s) (t37_27 : Bool) (s : Nat → V) (hs : Facts [(0, (Enc.enc (l_1 : List Int))), (1, (.int .i64 lo_2)), (2, (.int .i64 hi_3)), (6, (.bool false)), (7, (.int .i64 i_13)), (37, (.bool t37_27))] s) (h : s_l1Rising_j1 F l_1 lo_2 hi_3 i_13 c1 t37_27 = some r) : Run D σ (R120 r) (.nrm [.sq A120_4, .bk 1, .sq A120_5, .lp A120_1, .bk 0, .sq A120_6]) s := by
  unfold s_l1Rising_j1 at h
  obtain ⟨h0, h1, h2, h6, h7, h37⟩ := hs
  refine .nsq ?_
  refine run_cond (t := t37_27) h37 h (fun h => ?_) (fun h => ?_)
  · refine .seq ?_
    refine run_reg ?_
    refine e_end ?_
    refine g_v0 (.bool false) rfl rfl ?_
    refine g_end ?_
    refine e_end ?_
    refine renew [(0, (Enc.enc (l_1 : List Int))), (1, (.int .i64 lo_2)), (2, (.int .i64 hi_3)), (6, (.bool false)), (7, (.int .i64 i_13))] ⟨h0, h1, h2, rfl, h7⟩ ?_
    rintro s ⟨h0, h1, h2, h6, h7⟩
    refine .nsq ?_
    refine .ret ?_
    have hr := Option.some.inj h
    subst hr
    exact rrA (res_tmp h6) rfl
  · refine .skip ?_
    refine .nbk ?_
    refine .nsq ?_
    refine run_reg ?_
    refine e_end ?_
    refine g_v1 (t := 7) (u := (.int .i64 i_13)) (.int .i64 i_13) h7 rfl rfl ?_
    refine g_v1 (t := 12) (u := (.int .i64 i_13)) (.int .i64 (w64 (i_13 + 1))) rfl rfl rfl ?_
    refine g_v1 (t := 13) (u := (.int .i64 (w64 (i_13 + 1)))) (.int .i64 (w64 (i_13 + 1))) rfl rfl rfl ?_
    refine g_end ?_
    refine e_end ?_
    refine renew [(0, (Enc.enc (l_1 : List Int))), (1, (.int .i64 lo_2)), (2, (.int .i64 hi_3)), (6, (.bool false)), (7, (.int .i64 (w64 (i_13 + 1))))] ⟨h0, h1, h2, h6, rfl⟩ ?_
    rintro s ⟨h0, h1, h2, h6, h7⟩
    refine .nlp ?_
    exact Hc1 (w64 (i_13 + 1)) _ ⟨h0, h1, h2, h6, h7⟩ h
def s_l1Rising_l1 (F : Nat) (l_1 : (List Int)) (lo_2 : Int) (hi_3 : Int)  : Nat → Int → Option Bool
  | 0, _ => none
  | k + 1, i_13 =>
    bif decide (i_13 < (l_1.length : Int)) then
      (idx l_1 i_13).bind fun e_28 =>
      (s_l1In F e_28 lo_2 hi_3).bind fun r_29 =>
      bif (!r_29) then
        s_l1Rising_j1 F l_1 lo_2 hi_3 i_13 (s_l1Rising_l1 F l_1 lo_2 hi_3 k) true
      else
        bif decide (i_13 > 0) then
          (idx l_1 (w64 (i_13 - 1))).bind fun e_30 =>
          (idx l_1 i_13).bind fun e_31 =>
          s_l1Rising_j1 F l_1 lo_2 hi_3 i_13 (s_l1Rising_l1 F l_1 lo_2 hi_3 k) (decide (e_30 ≥ e_31))
        else
          s_l1Rising_j1 F l_1 lo_2 hi_3 i_13 (s_l1Rising_l1 F l_1 lo_2 hi_3 k) false
    else
      some true
theorem t_f120_l1 (H : H120 D σ F) (l_1 : (List Int)) (lo_2 : Int) (hi_3 : Int)  : ∀ (k : Nat) (i_13 : Int) (s : Nat → V), Facts [(0, (Enc.enc (l_1 : List Int))), (1, (.int .i64 lo_2)), (2, (.int .i64 hi_3)), (6, (.bool false)), (7, (.int .i64 i_13))] s → s_l1Rising_l1 F l_1 lo_2 hi_3 k i_13 = some r → Run D σ (R120 r) (.run A120_1 [.lp A120_1, .bk 0, .sq A120_6]) s := by
  intro k
  induction k with
  | zero => intro i_13 s _ h; exact nomatch (h : (none : Option _) = some r)
  | succ k ih =>
    intro i_13 s hs h
    rw [s_l1Rising_l1] at h
    obtain ⟨h0, h1, h2, h6, h7⟩ := hs
    refine .seq ?_
    refine .seq ?_
    refine run_reg ?_
    refine e_end ?_
    refine g_v1 (t := 7) (u := (.int .i64 i_13)) (.int .i64 i_13) h7 rfl rfl ?_
    refine g_v1 (t := 0) (u := (Enc.enc (l_1 : List Int))) (Enc.enc (l_1 : List Int)) h0 rfl rfl ?_
    refine g_v (.int .i64 (l_1.length : Int)) (ev_len (xs := l_1) rfl) ?_
    refine g_v2 (t1 := 8) (t2 := 10) (u1 := (.int .i64 i_13)) (u2 := (.int .i64 (l_1.length : Int))) (.bool (decide (i_13 < (l_1.length : Int)))) rfl rfl rfl rfl ?_
    refine g_end ?_
    refine e_end ?_
    refine renew [(0, (Enc.enc (l_1 : List Int))), (1, (.int .i64 lo_2)), (2, (.int .i64 hi_3)), (6, (.bool false)), (7, (.int .i64 i_13)), (11, (.bool (decide (i_13 < (l_1.length : Int)))))] ⟨h0, h1, h2, h6, h7, rfl⟩ ?_
    rintro s ⟨h0, h1, h2, h6, h7, h11⟩
    refine .nsq ?_
    refine run_cond (t := decide (i_13 < (l_1.length : Int))) h11 h (fun h => ?_) (fun h => ?_)
    · refine .skip ?_
      refine .nsq ?_
      refine .seq ?_
      refine .block ?_
      refine .seq ?_
      refine run_reg ?_
      refine e_end ?_
      refine g_v1 (t := 0) (u := (Enc.enc (l_1 : List Int))) (Enc.enc (l_1 : List Int)) h0 rfl rfl ?_
      refine g_v1 (t := 7) (u := (.int .i64 i_13)) (.int .i64 i_13) h7 rfl rfl ?_
      obtain ⟨e_28, E_e_28, h⟩ := bind_some h
      refine g_v (.ref .sh 0 [] (.int .i64 e_28)) (ev_idx (t := .sh) (lo := 0) (xs := l_1) rfl rfl E_e_28 rfl rfl) ?_
      refine g_v1 (t := 16) (u := (.ref .sh 0 [] (.int .i64 e_28))) (.int .i64 e_28) rfl rfl rfl ?_
      refine g_v1 (t := 1) (u := (.int .i64 lo_2)) (.int .i64 lo_2) h1 rfl rfl ?_
      refine g_v1 (t := 2) (u := (.int .i64 hi_3)) (.int .i64 hi_3) h2 rfl rfl ?_
      obtain ⟨r_29, E_r_29, h⟩ := bind_some h
      refine g_call (m := 0) (al := false) (r := (Enc.enc (r_29 : Bool))) [Enc.enc (e_28 : Int), Enc.enc (lo_2 : Int), Enc.enc (hi_3 : Int)] (ta_cons (v := (.int .i64 e_28)) rfl rfl rfl (ta_cons (v := (.int .i64 lo_2)) rfl rfl rfl (ta_cons (v := (.int .i64 hi_3)) rfl rfl rfl ta_nil))) (H.c65 _ _ _ _ E_r_29) H.g65 rfl rfl rfl rfl ?_
      refine g_v1 (t := 20) (u := (.bool r_29)) (.bool (!r_29)) rfl rfl rfl ?_
      refine g_v1 (t := 21) (u := (.bool (!r_29))) (.bool (!r_29)) rfl rfl rfl ?_
      refine split_on (c := (!r_29)) h (fun hg9 h => ?_) (fun hg9 h => ?_)
      · refine g_no (Eq.trans (b := .bool (!r_29)) rfl (congrArg V.bool hg9)) ?_
        refine g_no (Eq.trans (b := .bool (!r_29)) rfl (congrArg V.bool hg9)) ?_
        refine g_no (Eq.trans (b := .bool (!r_29)) rfl (congrArg V.bool hg9)) ?_
        refine g_skip rfl ?_
        refine g_skip rfl ?_
        refine g_skip rfl ?_
        refine g_skip rfl ?_
        refine g_skip rfl ?_
        refine g_skip rfl ?_
        refine g_skip rfl ?_
        refine g_skip rfl ?_
        refine g_skip rfl ?_
        refine g_skip rfl ?_
        refine g_no (Eq.trans (b := .bool (!r_29)) rfl (congrArg V.bool hg9)) ?_
        refine g_v2 (t1 := 22) (t2 := 36) (u1 := (.bool true)) (u2 := (.tup [])) (.bool true) (Eq.trans (b := .bool (!r_29)) rfl (congrArg V.bool hg9)) rfl rfl rfl ?_
        refine g_end ?_
        refine e_end ?_
        refine renew [(0, (Enc.enc (l_1 : List Int))), (1, (.int .i64 lo_2)), (2, (.int .i64 hi_3)), (6, (.bool false)), (7, (.int .i64 i_13)), (37, (.bool true))] ⟨h0, h1, h2, h6, h7, rfl⟩ ?_
        rintro s ⟨h0, h1, h2, h6, h7, h37⟩
        exact t_f120_j1 H l_1 lo_2 hi_3 i_13 (s_l1Rising_l1 F l_1 lo_2 hi_3 k) ih true _ ⟨h0, h1, h2, h6, h7, h37⟩ h
      · refine g_yes (Eq.trans (b := .bool (!r_29)) rfl (congrArg V.bool hg9)) (g_v1 (t := 7) (u := (.int .i64 i_13)) (.int .i64 i_13) h7 rfl rfl ?_)
        refine g_yes (Eq.trans (b := .bool (!r_29)) rfl (congrArg V.bool hg9)) (g_v1 (t := 23) (u := (.int .i64 i_13)) (.bool (decide (i_13 > 0))) rfl rfl rfl ?_)
        refine g_yes (Eq.trans (b := .bool (!r_29)) rfl (congrArg V.bool hg9)) (g_v1 (t := 24) (u := (.bool (decide (i_13 > 0)))) (.bool (decide (i_13 > 0))) rfl rfl rfl ?_)
        refine split_on (c := decide (i_13 > 0)) h (fun hg12 h => ?_) (fun hg12 h => ?_)
        · refine g_yes (Eq.trans (b := .bool (decide (i_13 > 0))) rfl (congrArg V.bool hg12)) (g_v1 (t := 0) (u := (Enc.enc (l_1 : List Int))) (Enc.enc (l_1 : List Int)) h0 rfl rfl ?_)
          refine g_yes (Eq.trans (b := .bool (decide (i_13 > 0))) rfl (congrArg V.bool hg12)) (g_v1 (t := 7) (u := (.int .i64 i_13)) (.int .i64 i_13) h7 rfl rfl ?_)
          refine g_yes (Eq.trans (b := .bool (decide (i_13 > 0))) rfl (congrArg V.bool hg12)) (g_v1 (t := 27) (u := (.int .i64 i_13)) (.int .i64 (w64 (i_13 - 1))) rfl rfl rfl ?_)
          obtain ⟨e_30, E_e_30, h⟩ := bind_some h
          refine g_yes (Eq.trans (b := .bool (decide (i_13 > 0))) rfl (congrArg V.bool hg12)) (g_v (.ref .sh 0 [] (.int .i64 e_30)) (ev_idx (t := .sh) (lo := 0) (xs := l_1) rfl rfl E_e_30 rfl rfl) ?_)
          refine g_yes (Eq.trans (b := .bool (decide (i_13 > 0))) rfl (congrArg V.bool hg12)) (g_v1 (t := 29) (u := (.ref .sh 0 [] (.int .i64 e_30))) (.int .i64 e_30) rfl rfl rfl ?_)
          refine g_yes (Eq.trans (b := .bool (decide (i_13 > 0))) rfl (congrArg V.bool hg12)) (g_v1 (t := 0) (u := (Enc.enc (l_1 : List Int))) (Enc.enc (l_1 : List Int)) h0 rfl rfl ?_)
          refine g_yes (Eq.trans (b := .bool (decide (i_13 > 0))) rfl (congrArg V.bool hg12)) (g_v1 (t := 7) (u := (.int .i64 i_13)) (.int .i64 i_13) h7 rfl rfl ?_)
          obtain ⟨e_31, E_e_31, h⟩ := bind_some h
          refine g_yes (Eq.trans (b := .bool (decide (i_13 > 0))) rfl (congrArg V.bool hg12)) (g_v (.ref .sh 0 [] (.int .i64 e_31)) (ev_idx (t := .sh) (lo := 0) (xs := l_1) rfl rfl E_e_31 rfl rfl) ?_)
          refine g_yes (Eq.trans (b := .bool (decide (i_13 > 0))) rfl (congrArg V.bool hg12)) (g_v1 (t := 33) (u := (.ref .sh 0 [] (.int .i64 e_31))) (.int .i64 e_31) rfl rfl rfl ?_)
          refine g_yes (Eq.trans (b := .bool (decide (i_13 > 0))) rfl (congrArg V.bool hg12)) (g_v2 (t1 := 30) (t2 := 34) (u1 := (.int .i64 e_30)) (u2 := (.int .i64 e_31)) (.bool (decide (e_30 ≥ e_31))) rfl rfl rfl rfl ?_)
          refine g_yes (Eq.trans (b := .bool (!r_29)) rfl (congrArg V.bool hg9)) (g_v2 (t1 := 25) (t2 := 35) (u1 := (.bool true)) (u2 := (.bool (decide (e_30 ≥ e_31)))) (.bool (decide (e_30 ≥ e_31))) (Eq.trans (b := .bool (decide (i_13 > 0))) rfl (congrArg V.bool hg12)) rfl rfl rfl ?_)
          refine g_v2 (t1 := 22) (t2 := 36) (u1 := (.bool false)) (u2 := (.bool (decide (e_30 ≥ e_31)))) (.bool (decide (e_30 ≥ e_31))) (Eq.trans (b := .bool (!r_29)) rfl (congrArg V.bool hg9)) rfl rfl rfl ?_
          refine g_end ?_
          refine e_end ?_
          refine renew [(0, (Enc.enc (l_1 : List Int))), (1, (.int .i64 lo_2)), (2, (.int .i64 hi_3)), (6, (.bool false)), (7, (.int .i64 i_13)), (37, (.bool (decide (e_30 ≥ e_31))))] ⟨h0, h1, h2, h6, h7, rfl⟩ ?_
          rintro s ⟨h0, h1, h2, h6, h7, h37⟩
          exact t_f120_j1 H l_1 lo_2 hi_3 i_13 (s_l1Rising_l1 F l_1 lo_2 hi_3 k) ih (decide (e_30 ≥ e_31)) _ ⟨h0, h1, h2, h6, h7, h37⟩ h
        · refine g_no (Eq.trans (b := .bool (decide (i_13 > 0))) rfl (congrArg V.bool hg12)) ?_
          refine g_no (Eq.trans (b := .bool (decide (i_13 > 0))) rfl (congrArg V.bool hg12)) ?_
          refine g_no (Eq.trans (b := .bool (decide (i_13 > 0))) rfl (congrArg V.bool hg12)) ?_
          refine g_no (Eq.trans (b := .bool (decide (i_13 > 0))) rfl (congrArg V.bool hg12)) ?_
          refine g_no (Eq.trans (b := .bool (decide (i_13 > 0))) rfl (congrArg V.bool hg12)) ?_
          refine g_no (Eq.trans (b := .bool (decide (i_13 > 0))) rfl (congrArg V.bool hg12)) ?_
          refine g_no (Eq.trans (b := .bool (decide (i_13 > 0))) rfl (congrArg V.bool hg12)) ?_
          refine g_no (Eq.trans (b := .bool (decide (i_13 > 0))) rfl (congrArg V.bool hg12)) ?_
          refine g_no (Eq.trans (b := .bool (decide (i_13 > 0))) rfl (congrArg V.bool hg12)) ?_
          refine g_no (Eq.trans (b := .bool (decide (i_13 > 0))) rfl (congrArg V.bool hg12)) ?_
          refine g_yes (Eq.trans (b := .bool (!r_29)) rfl (congrArg V.bool hg9)) (g_v2 (t1 := 25) (t2 := 35) (u1 := (.bool false)) (u2 := (.tup [])) (.bool false) (Eq.trans (b := .bool (decide (i_13 > 0))) rfl (congrArg V.bool hg12)) rfl rfl rfl ?_)
          refine g_v2 (t1 := 22) (t2 := 36) (u1 := (.bool false)) (u2 := (.bool false)) (.bool false) (Eq.trans (b := .bool (!r_29)) rfl (congrArg V.bool hg9)) rfl rfl rfl ?_
          refine g_end ?_
          refine e_end ?_
          refine renew [(0, (Enc.enc (l_1 : List Int))), (1, (.int .i64 lo_2)), (2, (.int .i64 hi_3)), (6, (.bool false)), (7, (.int .i64 i_13)), (37, (.bool false))] ⟨h0, h1, h2, h6, h7, rfl⟩ ?_
          rintro s ⟨h0, h1, h2, h6, h7, h37⟩
          exact t_f120_j1 H l_1 lo_2 hi_3 i_13 (s_l1Rising_l1 F l_1 lo_2 hi_3 k) ih false _ ⟨h0, h1, h2, h6, h7, h37⟩ h
    · refine .exit ?_
      refine .esq ?_
      refine .elp ?_
      refine .ebk ?_
      refine .nsq ?_
      refine .seq ?_
      refine run_reg ?_
      refine e_end ?_
      refine g_v0 (.bool true) rfl rfl ?_
      refine g_end ?_
      refine e_end ?_
      refine renew [(6, (.bool true))] rfl ?_
      rintro s h6
      refine .nsq ?_
      refine .ret ?_
      have hr := Option.some.inj h
      subst hr
      exact rrA (res_tmp h6) rfl
def s_l1Rising (F : Nat) (l_1 : (List Int)) (lo_2 : Int) (hi_3 : Int) : Option Bool :=
  s_l1Rising_l1 F l_1 lo_2 hi_3 F 0
theorem t120 (H : H120 D σ F) (l_1 : (List Int)) (lo_2 : Int) (hi_3 : Int) (s : Nat → V) (hs : Facts [(0, (Enc.enc (l_1 : List Int))), (1, (.int .i64 lo_2)), (2, (.int .i64 hi_3))] s) (h : s_l1Rising F l_1 lo_2 hi_3 = some r) : Run D σ (R120 r) (.run A120 []) s := by
  unfold s_l1Rising at h
  obtain ⟨h0, h1, h2⟩ := hs
  refine .seq ?_
  refine run_reg ?_
  refine e_end ?_
  refine g_v0 (.bool false) rfl rfl ?_
  refine g_end ?_
  refine e_end ?_
  refine renew [(0, (Enc.enc (l_1 : List Int))), (1, (.int .i64 lo_2)), (2, (.int .i64 hi_3)), (6, (.bool false))] ⟨h0, h1, h2, rfl⟩ ?_
  rintro s ⟨h0, h1, h2, h6⟩
  refine .nsq ?_
  refine .seq ?_
  refine .seq ?_
  refine run_reg ?_
  refine e_end ?_
  refine g_v0 (.int .i64 0) rfl rfl ?_
  refine g_end ?_
  refine e_end ?_
  refine renew [(0, (Enc.enc (l_1 : List Int))), (1, (.int .i64 lo_2)), (2, (.int .i64 hi_3)), (6, (.bool false)), (7, (.int .i64 0))] ⟨h0, h1, h2, h6, rfl⟩ ?_
  rintro s ⟨h0, h1, h2, h6, h7⟩
  refine .nsq ?_
  refine .block ?_
  refine .loop ?_
  exact t_f120_l1 H l_1 lo_2 hi_3 F 0 _ ⟨h0, h1, h2, h6, h7⟩ h
end
def e120 (F : Nat) : Ent := ⟨120, da (fun (x : ((List Int) × Int × Int × Unit)) => s_l1Rising F x.1 x.2.1 x.2.2.1) (fun (r : Bool) => (Enc.enc (r : Bool))), 0, false, selF []⟩
theorem p120 {F : Nat} {x0 : (List Int)} {x1 : Int} {x2 : Int} {r : Bool} (h : s_l1Rising F x0 x1 x2 = some r) : (e120 F).den [Enc.enc x0, Enc.enc x1, Enc.enc x2] = some (Enc.enc (r : Bool)) := da_put (f := fun (x : ((List Int) × Int × Int × Unit)) => s_l1Rising F x.1 x.2.1 x.2.2.1) (t := fun (r : Bool) => (Enc.enc (r : Bool))) (x0, x1, x2, ()) h
theorem o120 {D : Den} {σ : Sig} {F : Nat} (hF : Fits2 Try.prog D σ) (H : H120 D σ F) : (e120 F).Ok Try.prog := by
  refine ⟨fun args r h => ?_, ⟨Try.f120, Try.func120, rfl, rfl⟩⟩
  obtain ⟨⟨x0, x1, x2, _⟩, y, rfl, hy, rfl⟩ := da_open h
  exact contract_run hF (by kernel_rfl) Try.func120 rfl c120 (show 3 ≤ Try.f120.ntmps by decide) (t120 H x0 x1 x2 _ ⟨rfl, rfl, rfl⟩ hy)
/- loop.example/g01109/spec.l2Set -/
def A89_1 : AC := (AC.seq (AC.reg [] [(I.mk (some 5) none false (X.v (A.mov (O.t 1)))), (I.mk (some 6) none false (X.v (A.fld (O.t 2) 0 0))), (I.mk (some 7) none false (X.v (A.load Sh.s (O.t 6)))), (I.mk (some 8) none false (X.v (A.bin BinOp.sub (O.t 7) (O.k (V.int IntKind.i64 (Int.ofNat 1)))))), (I.mk (some 9) none false (X.call (O.k (V.fn 120 [] [])) [(O.t 5), (O.k (V.int IntKind.i64 (Int.ofNat 0))), (O.t 8)])), (I.mk (some 4) none false (X.v (A.mov (O.t 9))))] []) AC.ret)
def A89 : AC := (AC.seq (AC.reg [.clr [2]] [(I.mk (some 2) none false (X.box (O.t 0))), (I.mk (some 4) none false (X.v (A.mov (O.k (V.bool false)))))] []) A89_1)
def an89 : List An := [{ id := 0, pre := [.clr [2]], ep := [], lin := [], sp := [] }]
theorem c89 : cC Try.prog Try.f89.ntmps an89 (Try.f89.body.getD .skip) = some A89 := by kernel_rfl
structure H89 (D : Den) (σ : Sig) (F : Nat) : Prop where
  c120 : ∀ (x0 : (List Int)) (x1 : Int) (x2 : Int) r, s_l1Rising F x0 x1 x2 = some r → D 120 [Enc.enc x0, Enc.enc x1, Enc.enc x2] = some (Enc.enc (r : Bool))
  g120 : σ 120 = some (0, false)
abbrev R89 (r : Bool) : (Nat → V) → Prop := RR Try.prog [.tmp 4] 0 false (Enc.enc (r : Bool))
section
variable {D : Den} {σ : Sig} {F : Nat} {r : Bool}
def s_l2Set (F : Nat) (g_1 : (Int × (List (Int × Int)))) (set_2 : (List Int)) : Option Bool :=
  (s_l1Rising F set_2 0 (w64 (g_1.1 - 1))).bind fun r_3 =>
  some r_3
theorem t89 (H : H89 D σ F) (g_1 : (Int × (List (Int × Int)))) (set_2 : (List Int)) (s : Nat → V) (hs : Facts [(0, (.agg [(.int .i64 g_1.1), (Enc.enc (g_1.2 : List (Int × Int)))])), (1, (Enc.enc (set_2 : List Int)))] s) (h : s_l2Set F g_1 set_2 = some r) : Run D σ (R89 r) (.run A89 []) s := by
  unfold s_l2Set at h
  obtain ⟨h0, h1⟩ := hs
  refine .seq ?_
  refine run_reg ?_
  refine e_clr ?_
  refine e_end ?_
  refine g_box (.agg [(.int .i64 g_1.1), (Enc.enc (g_1.2 : List (Int × Int)))]) (rd_of (keep_clear (s := s) (pk := [2]) h0 rfl (map_agg (maps_cons rfl (maps_cons (Enc.map_enc _ (g_1.2 : List (Int × Int))) maps_nil)))) rfl) (gone_clear (s := s) (pk := [2]) (t := 2) rfl) rfl ?_
  refine g_v0 (.bool false) rfl rfl ?_
  refine g_end ?_
  refine e_end ?_
  refine renew [(1, (Enc.enc (set_2 : List Int))), (2, (.ref (.bx 2) 0 [] (.agg [(.int .i64 g_1.1), (Enc.enc (g_1.2 : List (Int × Int)))]))), (4, (.bool false))] ⟨(keep_clear (s := s) (pk := [2]) h1 rfl (Enc.map_enc _ (set_2 : List Int))), rfl, rfl⟩ ?_
  rintro s ⟨h1, h2, h4⟩
  refine .nsq ?_
  refine .seq ?_
  refine run_reg ?_
  refine e_end ?_
  refine g_v1 (t := 1) (u := (Enc.enc (set_2 : List Int))) (Enc.enc (set_2 : List Int)) h1 rfl rfl ?_
  refine g_v1 (t := 2) (u := (.ref (.bx 2) 0 [] (.agg [(.int .i64 g_1.1), (Enc.enc (g_1.2 : List (Int × Int)))]))) (.ref (.bx 2) 0 [0] (.int .i64 g_1.1)) h2 rfl rfl ?_
  refine g_v1 (t := 6) (u := (.ref (.bx 2) 0 [0] (.int .i64 g_1.1))) (.int .i64 g_1.1) rfl rfl rfl ?_
  refine g_v1 (t := 7) (u := (.int .i64 g_1.1)) (.int .i64 (w64 (g_1.1 - 1))) rfl rfl rfl ?_
  obtain ⟨r_3, E_r_3, h⟩ := bind_some h
  refine g_call (m := 0) (al := false) (r := (Enc.enc (r_3 : Bool))) [Enc.enc (set_2 : (List Int)), Enc.enc (0 : Int), Enc.enc (w64 (g_1.1 - 1) : Int)] (ta_cons (v := (Enc.enc (set_2 : List Int))) rfl rfl (Enc.erase_enc (set_2 : (List Int))) (ta_cons (v := (.int .i64 0)) rfl rfl rfl (ta_cons (v := (.int .i64 (w64 (g_1.1 - 1)))) rfl rfl rfl ta_nil))) (H.c120 _ _ _ _ E_r_3) H.g120 rfl rfl rfl rfl ?_
  refine g_v1 (t := 9) (u := (.bool r_3)) (.bool r_3) rfl rfl rfl ?_
  refine g_end ?_
  refine e_end ?_
  refine renew [(4, (.bool r_3))] rfl ?_
  rintro s h4
  refine .nsq ?_
  refine .ret ?_
  have hr := Option.some.inj h
  subst hr
  exact rrA (res_tmp h4) rfl
end
def e89 (F : Nat) : Ent := ⟨89, da (fun (x : ((Int × (List (Int × Int))) × (List Int) × Unit)) => s_l2Set F x.1 x.2.1) (fun (r : Bool) => (Enc.enc (r : Bool))), 0, false, selF []⟩
theorem p89 {F : Nat} {x0 : (Int × (List (Int × Int)))} {x1 : (List Int)} {r : Bool} (h : s_l2Set F x0 x1 = some r) : (e89 F).den [Enc.enc x0, Enc.enc x1] = some (Enc.enc (r : Bool)) := da_put (f := fun (x : ((Int × (List (Int × Int))) × (List Int) × Unit)) => s_l2Set F x.1 x.2.1) (t := fun (r : Bool) => (Enc.enc (r : Bool))) (x0, x1, ()) h
theorem o89 {D : Den} {σ : Sig} {F : Nat} (hF : Fits2 Try.prog D σ) (H : H89 D σ F) : (e89 F).Ok Try.prog := by
  refine ⟨fun args r h => ?_, ⟨Try.f89, Try.func89, rfl, rfl⟩⟩
  obtain ⟨⟨x0, x1, _⟩, y, rfl, hy, rfl⟩ := da_open h
  exact contract_run hF (by kernel_rfl) Try.func89 rfl c89 (show 2 ≤ Try.f89.ntmps by decide) (t89 H x0 x1 _ ⟨rfl, rfl⟩ hy)
/- loop.example/g01109/spec.l5Numbers -/
def A124_2 : AC := (AC.cond (O.t 8) AC.skip (AC.exit 0))
def A124_4 : AC := (AC.reg [] [(I.mk (some 9) none false (X.v (A.mov (O.t 4)))), (I.mk (some 10) none false (X.v (A.bin BinOp.add (O.t 9) (O.k (V.int IntKind.i64 (Int.ofNat 1)))))), (I.mk (some 4) none false (X.v (A.mov (O.t 10))))] [])
def A124_3 : AC := (AC.seq (AC.block 1 (AC.reg [.clr [13, 14]] [(I.mk (some 11) none false (X.v (A.mov (O.t 3)))), (I.mk (some 12) none false (X.v (A.mov (O.t 4)))), (I.mk (some 13) none false (X.lit (V.int IntKind.i64 (Int.ofNat 0)) 1 [(0, 0, (O.t 12))])), (I.mk (some 14) none false (X.app Sh.s (O.t 11) (O.t 13))), (I.mk (some 3) none false (X.v (A.mov (O.t 14))))] [.home 14 3])) A124_4)
def A124_1 : AC := (AC.seq (AC.seq (AC.reg [] [(I.mk (some 6) none false (X.v (A.mov (O.t 4)))), (I.mk (some 7) none false (X.v (A.mov (O.t 0)))), (I.mk (some 8) none false (X.v (A.bin BinOp.lss (O.t 6) (O.t 7))))] []) A124_2) A124_3)
def A124_5 : AC := (AC.seq (AC.reg [] [(I.mk (some 15) none false (X.v (A.mov (O.t 3)))), (I.mk (some 2) none false (X.v (A.mov (O.t 15))))] [.home 3 2]) AC.ret)
def A124_8 : AC := (AC.block 0 (AC.loop A124_1))
def A124_7 : AC := (AC.seq (AC.seq (AC.reg [] [(I.mk (some 4) none false (X.v (A.mov (O.k (V.int IntKind.i64 (Int.ofNat 0))))))] []) A124_8) A124_5)
def A124_6 : AC := (AC.seq (AC.reg [.clr [5]] [(I.mk (some 5) none false (X.lit (V.int IntKind.i64 (Int.ofNat 0)) 0 [])), (I.mk (some 3) none false (X.v (A.mov (O.t 5))))] [.home 5 3]) A124_7)
def A124 : AC := (AC.seq (AC.reg [] [(I.mk (some 2) none false (X.v (A.mov (O.k (V.sl Tok.nl Sh.s 0 [])))))] []) A124_6)
def an124 : List An := [{ id := 1, pre := [.clr [5]], ep := [.home 5 3], lin := [], sp := [] }, { id := 5, pre := [.clr [13, 14]], ep := [.home 14 3], lin := [], sp := [] }, { id := 6, pre := [], ep := [.home 3 2], lin := [], sp := [] }]
theorem c124 : cC Try.prog Try.f124.ntmps an124 (Try.f124.body.getD .skip) = some A124 := by kernel_rfl
structure H124 (D : Den) (σ : Sig) (F : Nat) : Prop where
  mk ::
abbrev R124 (r : (List Int)) : (Nat → V) → Prop := RR Try.prog [.tmp 2] 0 false (Enc.enc (r : (List Int)))
section
variable {D : Den} {σ : Sig} {F : Nat} {r : (List Int)}
def s_l5Numbers_l1 (F : Nat) (n_1 : Int)  : Nat → (List Int) → Int → Option (List Int)
  | 0, _, _ => none
  | k + 1, out_3, i_4 =>
    bif decide (i_4 < n_1) then
      (appL out_3 [i_4]).bind fun ap_6 =>
      (s_l5Numbers_l1 F n_1 k) ap_6 (w64 (i_4 + 1))
    else
      some out_3
theorem t_f124_l1 (H : H124 D σ F) (n_1 : Int)  : ∀ (k : Nat) (out_3 : (List Int)) (i_4 : Int) (s : Nat → V), Facts [(0, (.int .i64 n_1)), (2, (.sl .nl (Enc.shp Int) 0 [])), (3, (encO (.at 3 []) (.of (out_3 : List Int)))), (4, (.int .i64 i_4))] s → s_l5Numbers_l1 F n_1 k out_3 i_4 = some r → Run D σ (R124 r) (.run A124_1 [.lp A124_1, .bk 0, .sq A124_5]) s := by
  intro k
  induction k with
  | zero => intro out_3 i_4 s _ h; exact nomatch (h : (none : Option _) = some r)
  | succ k ih =>
    intro out_3 i_4 s hs h
    rw [s_l5Numbers_l1] at h
    obtain ⟨h0, h2, h3, h4⟩ := hs
    refine .seq ?_
    refine .seq ?_
    refine run_reg ?_
    refine e_end ?_
    refine g_v1 (t := 4) (u := (.int .i64 i_4)) (.int .i64 i_4) h4 rfl rfl ?_
    refine g_v1 (t := 0) (u := (.int .i64 n_1)) (.int .i64 n_1) h0 rfl rfl ?_
    refine g_v2 (t1 := 6) (t2 := 7) (u1 := (.int .i64 i_4)) (u2 := (.int .i64 n_1)) (.bool (decide (i_4 < n_1))) rfl rfl rfl rfl ?_
    refine g_end ?_
    refine e_end ?_
    refine renew [(0, (.int .i64 n_1)), (2, (.sl .nl (Enc.shp Int) 0 [])), (3, (encO (.at 3 []) (.of (out_3 : List Int)))), (4, (.int .i64 i_4)), (8, (.bool (decide (i_4 < n_1))))] ⟨h0, h2, h3, h4, rfl⟩ ?_
    rintro s ⟨h0, h2, h3, h4, h8⟩
    refine .nsq ?_
    refine run_cond (t := decide (i_4 < n_1)) h8 h (fun h => ?_) (fun h => ?_)
    · refine .skip ?_
      refine .nsq ?_
      refine .seq ?_
      refine .block ?_
      refine run_reg ?_
      refine e_clr ?_
      refine e_end ?_
      refine g_v1 (t := 3) (u := (encO (.at 3 []) (.of (out_3 : List Int)))) (encO (.at 3 []) (.of (out_3 : List Int))) (keep_clear (s := s) (pk := [13, 14]) h3 rfl (map_encO (r := 3) (p := []) rfl rfl)) rfl rfl ?_
      refine g_v1 (t := 4) (u := (.int .i64 i_4)) (.int .i64 i_4) (keep_clear (s := s) (pk := [13, 14]) h4 rfl rfl) rfl rfl ?_
      refine g_litL [(12, (.int .i64 i_4))] [Enc.enc (i_4 : Int)] rfl rfl rfl (gone_clear (s := s) (pk := [13, 14]) (t := 13) rfl) ?_
      obtain ⟨ap_6, E_ap_6, h⟩ := bind_some h
      refine g_app (q := 3) (p := []) (o := (.of (out_3 : List Int))) (ys := ([i_4] : List Int)) (t2 := (.at 13 [])) (lo2 := 0) rfl rfl rfl (gone_clear (s := s) (pk := [13, 14]) (t := 14) rfl) (appN_L (o := (.of (out_3 : List Int))) E_ap_6 trivial) (fun s_10 ha_10 => ?_)
      refine g_v1 (t := 14) (u := (encO (.at 14 []) (.of (ap_6 : List Int)))) (encO (.at 14 []) (.of (ap_6 : List Int))) rfl rfl rfl ?_
      refine g_end ?_
      refine e_home (r := 14) (x := 3) (v := (encO (.at 14 []) (.of (ap_6 : List Int)))) (by exact rfl) rfl (fun s_11 hg_11 => ?_)
      refine e_end ?_
      refine renew [(0, (.int .i64 n_1)), (2, (.sl .nl (Enc.shp Int) 0 [])), (3, (encO (.at 3 []) (.of (ap_6 : List Int)))), (4, (.int .i64 i_4))] ⟨(hg_11 0 (.int .i64 n_1) (.int .i64 n_1) (show s_10 0 = (.int .i64 n_1) from keep_app ha_10 (keep_clear (s := s) (pk := [13, 14]) h0 rfl rfl) rfl) rfl), (hg_11 2 (.sl .nl (Enc.shp Int) 0 []) (.sl .nl (Enc.shp Int) 0 []) (show s_10 2 = (.sl .nl (Enc.shp Int) 0 []) from keep_app ha_10 (keep_clear (s := s) (pk := [13, 14]) h2 rfl rfl) rfl) rfl), (hg_11 3 (encO (.at 14 []) (.of (ap_6 : List Int))) (encO (.at 3 []) (.of (ap_6 : List Int))) rfl (map_encO (r := 14) (p := []) rfl rfl)), (hg_11 4 (.int .i64 i_4) (.int .i64 i_4) (show s_10 4 = (.int .i64 i_4) from keep_app ha_10 (keep_clear (s := s) (pk := [13, 14]) h4 rfl rfl) rfl) rfl)⟩ ?_
      rintro s ⟨h0, h2, h3, h4⟩
      refine .nbk ?_
      refine .nsq ?_
      refine run_reg ?_
      refine e_end ?_
      refine g_v1 (t := 4) (u := (.int .i64 i_4)) (.int .i64 i_4) h4 rfl rfl ?_
      refine g_v1 (t := 9) (u := (.int .i64 i_4)) (.int .i64 (w64 (i_4 + 1))) rfl rfl rfl ?_
      refine g_v1 (t := 10) (u := (.int .i64 (w64 (i_4 + 1)))) (.int .i64 (w64 (i_4 + 1))) rfl rfl rfl ?_
      refine g_end ?_
      refine e_end ?_
      refine renew [(0, (.int .i64 n_1)), (2, (.sl .nl (Enc.shp Int) 0 [])), (3, (encO (.at 3 []) (.of (ap_6 : List Int)))), (4, (.int .i64 (w64 (i_4 + 1))))] ⟨h0, h2, h3, rfl⟩ ?_
      rintro s ⟨h0, h2, h3, h4⟩
      refine .nlp ?_
      exact ih ap_6 (w64 (i_4 + 1)) _ ⟨h0, h2, h3, h4⟩ h
    · refine .exit ?_
      refine .esq ?_
      refine .elp ?_
      refine .ebk ?_
      refine .nsq ?_
      refine .seq ?_
      refine run_reg ?_
      refine e_end ?_
      refine g_v1 (t := 3) (u := (encO (.at 3 []) (.of (out_3 : List Int)))) (encO (.at 3 []) (.of (out_3 : List Int))) h3 rfl rfl ?_
      refine g_v1 (t := 15) (u := (encO (.at 3 []) (.of (out_3 : List Int)))) (encO (.at 3 []) (.of (out_3 : List Int))) rfl rfl rfl ?_
      refine g_end ?_
      refine e_home (r := 3) (x := 2) (v := (encO (.at 3 []) (.of (out_3 : List Int)))) (by exact rfl) rfl (fun s_12 hg_12 => ?_)
      refine e_end ?_
      refine renew [(2, (encO (.at 2 []) (.of (out_3 : List Int))))] (hg_12 2 (encO (.at 3 []) (.of (out_3 : List Int))) (encO (.at 2 []) (.of (out_3 : List Int))) rfl (map_encO (r := 3) (p := []) rfl rfl)) ?_
      rintro s h2
      refine .nsq ?_
      refine .ret ?_
      have hr := Option.some.inj h
      subst hr
      exact rrA (res_tmp h2) (fin_retF (fin_own (o := .of out_3)) (mine_own rfl))
def s_l5Numbers (F : Nat) (n_1 : Int) : Option (List Int) :=
  s_l5Numbers_l1 F n_1 F [] 0
theorem t124 (H : H124 D σ F) (n_1 : Int) (s : Nat → V) (hs : Facts [(0, (.int .i64 n_1))] s) (h : s_l5Numbers F n_1 = some r) : Run D σ (R124 r) (.run A124 []) s := by
  unfold s_l5Numbers at h
  have h0 := hs
  refine .seq ?_
  refine run_reg ?_
  refine e_end ?_
  refine g_v0 (.sl .nl (Enc.shp Int) 0 []) rfl rfl ?_
  refine g_end ?_
  refine e_end ?_
  refine renew [(0, (.int .i64 n_1)), (2, (.sl .nl (Enc.shp Int) 0 []))] ⟨h0, rfl⟩ ?_
  rintro s ⟨h0, h2⟩
  refine .nsq ?_
  refine .seq ?_
  refine run_reg ?_
  refine e_clr ?_
  refine e_end ?_
  refine g_litL [] [] trivial rfl rfl (gone_clear (s := s) (pk := [5]) (t := 5) rfl) ?_
  refine g_v1 (t := 5) (u := (encO (.at 5 []) (.of ([] : List Int)))) (encO (.at 5 []) (.of ([] : List Int))) rfl rfl rfl ?_
  refine g_end ?_
  refine e_home (r := 5) (x := 3) (v := (encO (.at 5 []) (.of ([] : List Int)))) (by exact rfl) rfl (fun s_2 hg_2 => ?_)
  refine e_end ?_
  refine renew [(0, (.int .i64 n_1)), (2, (.sl .nl (Enc.shp Int) 0 [])), (3, (encO (.at 3 []) (.of ([] : List Int))))] ⟨(hg_2 0 (.int .i64 n_1) (.int .i64 n_1) (keep_clear (s := s) (pk := [5]) h0 rfl rfl) rfl), (hg_2 2 (.sl .nl (Enc.shp Int) 0 []) (.sl .nl (Enc.shp Int) 0 []) (keep_clear (s := s) (pk := [5]) h2 rfl rfl) rfl), (hg_2 3 (encO (.at 5 []) (.of ([] : List Int))) (encO (.at 3 []) (.of ([] : List Int))) rfl (map_encO (r := 5) (p := []) rfl rfl))⟩ ?_
  rintro s ⟨h0, h2, h3⟩
  refine .nsq ?_
  refine .seq ?_
  refine .seq ?_
  refine run_reg ?_
  refine e_end ?_
  refine g_v0 (.int .i64 0) rfl rfl ?_
  refine g_end ?_
  refine e_end ?_
  refine renew [(0, (.int .i64 n_1)), (2, (.sl .nl (Enc.shp Int) 0 [])), (3, (encO (.at 3 []) (.of ([] : List Int)))), (4, (.int .i64 0))] ⟨h0, h2, h3, rfl⟩ ?_
  rintro s ⟨h0, h2, h3, h4⟩
  refine .nsq ?_
  refine .block ?_
  refine .loop ?_
  exact t_f124_l1 H n_1 F [] 0 _ ⟨h0, h2, h3, h4⟩ h
end
def e124 (F : Nat) : Ent := ⟨124, da (fun (x : (Int × Unit)) => s_l5Numbers F x.1) (fun (r : (List Int)) => (Enc.enc (r : (List Int)))), 0, false, selF []⟩
theorem p124 {F : Nat} {x0 : Int} {r : (List Int)} (h : s_l5Numbers F x0 = some r) : (e124 F).den [Enc.enc x0] = some (Enc.enc (r : (List Int))) := da_put (f := fun (x : (Int × Unit)) => s_l5Numbers F x.1) (t := fun (r : (List Int)) => (Enc.enc (r : (List Int)))) (x0, ()) h
theorem o124 {D : Den} {σ : Sig} {F : Nat} (hF : Fits2 Try.prog D σ) (H : H124 D σ F) : (e124 F).Ok Try.prog := by
  refine ⟨fun args r h => ?_, ⟨Try.f124, Try.func124, rfl, rfl⟩⟩
  obtain ⟨⟨x0, _⟩, y, rfl, hy, rfl⟩ := da_open h
  exact contract_run hF (by kernel_rfl) Try.func124 rfl c124 (show 1 ≤ Try.f124.ntmps by decide) (t124 H x0 _ rfl hy)
/- loop.example/g01109/spec.l1Has -/
def A45_2 : AC := (AC.cond (O.t 9) AC.skip (AC.exit 0))
def A45_4 : AC := (AC.cond (O.t 17) (AC.seq (AC.reg [] [(I.mk (some 4) none false (X.v (A.mov (O.k (V.bool true)))))] []) AC.ret) AC.skip)
def A45_5 : AC := (AC.reg [] [(I.mk (some 10) none false (X.v (A.mov (O.t 5)))), (I.mk (some 11) none false (X.v (A.bin BinOp.add (O.t 10) (O.k (V.int IntKind.i64 (Int.ofNat 1)))))), (I.mk (some 5) none false (X.v (A.mov (O.t 11))))] [])
def A45_3 : AC := (AC.seq (AC.block 1 (AC.seq (AC.reg [] [(I.mk (some 12) none false (X.v (A.mov (O.t 0)))), (I.mk (some 13) none false (X.v (A.mov (O.t 5)))), (I.mk (some 14) none false (X.v (A.idx (O.t 12) (O.t 13) 1))), (I.mk (some 15) none false (X.v (A.load Sh.s (O.t 14)))), (I.mk (some 16) none false (X.v (A.mov (O.t 1)))), (I.mk (some 17) none false (X.v (A.bin BinOp.eql (O.t 15) (O.t 16))))] []) A45_4)) A45_5)
def A45_1 : AC := (AC.seq (AC.seq (AC.reg [] [(I.mk (some 6) none false (X.v (A.mov (O.t 5)))), (I.mk (some 7) none false (X.v (A.mov (O.t 0)))), (I.mk (some 8) none false (X.v (A.len (O.t 7)))), (I.mk (some 9) none false (X.v (A.bin BinOp.lss (O.t 6) (O.t 8))))] []) A45_2) A45_3)
def A45_6 : AC := (AC.seq (AC.reg [] [(I.mk (some 4) none false (X.v (A.mov (O.k (V.bool false)))))] []) AC.ret)
def A45_8 : AC := (AC.block 0 (AC.loop A45_1))
def A45_7 : AC := (AC.seq (AC.seq (AC.reg [] [(I.mk (some 5) none false (X.v (A.mov (O.k (V.int IntKind.i64 (Int.ofNat 0))))))] []) A45_8) A45_6)
def A45 : AC := (AC.seq (AC.reg [] [(I.mk (some 4) none false (X.v (A.mov (O.k (V.bool false)))))] []) A45_7)
def an45 : List An := []
theorem c45 : cC Try.prog Try.f45.ntmps an45 (Try.f45.body.getD .skip) = some A45 := by kernel_rfl
structure H45 (D : Den) (σ : Sig) (F : Nat) : Prop where
  mk ::
abbrev R45 (r : Bool) : (Nat → V) → Prop := RR Try.prog [.tmp 4] 0 false (Enc.enc (r : Bool))
section
variable {D : Den} {σ : Sig} {F : Nat} {r : Bool}
def s_l1Has_l1 (F : Nat) (l_1 : (List Int)) (n_2 : Int)  : Nat → Int → Option Bool
  | 0, _ => none
  | k + 1, i_4 =>
    bif decide (i_4 < (l_1.length : Int)) then
      (idx l_1 i_4).bind fun e_6 =>
      bif (e_6 == n_2) then
        some true
      else
        (s_l1Has_l1 F l_1 n_2 k) (w64 (i_4 + 1))
    else
      some false
theorem t_f45_l1 (H : H45 D σ F) (l_1 : (List Int)) (n_2 : Int)  : ∀ (k : Nat) (i_4 : Int) (s : Nat → V), Facts [(0, (Enc.enc (l_1 : List Int))), (1, (.int .i64 n_2)), (4, (.bool false)), (5, (.int .i64 i_4))] s → s_l1Has_l1 F l_1 n_2 k i_4 = some r → Run D σ (R45 r) (.run A45_1 [.lp A45_1, .bk 0, .sq A45_6]) s := by
  intro k
  induction k with
  | zero => intro i_4 s _ h; exact nomatch (h : (none : Option _) = some r)
  | succ k ih =>
    intro i_4 s hs h
    rw [s_l1Has_l1] at h
    obtain ⟨h0, h1, h4, h5⟩ := hs
    refine .seq ?_
    refine .seq ?_
    refine run_reg ?_
    refine e_end ?_
    refine g_v1 (t := 5) (u := (.int .i64 i_4)) (.int .i64 i_4) h5 rfl rfl ?_
    refine g_v1 (t := 0) (u := (Enc.enc (l_1 : List Int))) (Enc.enc (l_1 : List Int)) h0 rfl rfl ?_
    refine g_v (.int .i64 (l_1.length : Int)) (ev_len (xs := l_1) rfl) ?_
    refine g_v2 (t1 := 6) (t2 := 8) (u1 := (.int .i64 i_4)) (u2 := (.int .i64 (l_1.length : Int))) (.bool (decide (i_4 < (l_1.length : Int)))) rfl rfl rfl rfl ?_
    refine g_end ?_
    refine e_end ?_
    refine renew [(0, (Enc.enc (l_1 : List Int))), (1, (.int .i64 n_2)), (4, (.bool false)), (5, (.int .i64 i_4)), (9, (.bool (decide (i_4 < (l_1.length : Int)))))] ⟨h0, h1, h4, h5, rfl⟩ ?_
    rintro s ⟨h0, h1, h4, h5, h9⟩
    refine .nsq ?_
    refine run_cond (t := decide (i_4 < (l_1.length : Int))) h9 h (fun h => ?_) (fun h => ?_)
    · refine .skip ?_
      refine .nsq ?_
      refine .seq ?_
      refine .block ?_
      refine .seq ?_
      refine run_reg ?_
      refine e_end ?_
      refine g_v1 (t := 0) (u := (Enc.enc (l_1 : List Int))) (Enc.enc (l_1 : List Int)) h0 rfl rfl ?_
      refine g_v1 (t := 5) (u := (.int .i64 i_4)) (.int .i64 i_4) h5 rfl rfl ?_
      obtain ⟨e_6, E_e_6, h⟩ := bind_some h
      refine g_v (.ref .sh 0 [] (.int .i64 e_6)) (ev_idx (t := .sh) (lo := 0) (xs := l_1) rfl rfl E_e_6 rfl rfl) ?_
      refine g_v1 (t := 14) (u := (.ref .sh 0 [] (.int .i64 e_6))) (.int .i64 e_6) rfl rfl rfl ?_
      refine g_v1 (t := 1) (u := (.int .i64 n_2)) (.int .i64 n_2) h1 rfl rfl ?_
      refine g_v2 (t1 := 15) (t2 := 16) (u1 := (.int .i64 e_6)) (u2 := (.int .i64 n_2)) (.bool (e_6 == n_2)) rfl rfl rfl rfl ?_
      refine g_end ?_
      refine e_end ?_
      refine renew [(0, (Enc.enc (l_1 : List Int))), (1, (.int .i64 n_2)), (4, (.bool false)), (5, (.int .i64 i_4)), (17, (.bool (e_6 == n_2)))] ⟨h0, h1, h4, h5, rfl⟩ ?_
      rintro s ⟨h0, h1, h4, h5, h17⟩
      refine .nsq ?_
      refine run_cond (t := (e_6 == n_2)) h17 h (fun h => ?_) (fun h => ?_)
      · refine .seq ?_
        refine run_reg ?_
        refine e_end ?_
        refine g_v0 (.bool true) rfl rfl ?_
        refine g_end ?_
        refine e_end ?_
        refine renew [(0, (Enc.enc (l_1 : List Int))), (1, (.int .i64 n_2)), (4, (.bool true)), (5, (.int .i64 i_4))] ⟨h0, h1, rfl, h5⟩ ?_
        rintro s ⟨h0, h1, h4, h5⟩
        refine .nsq ?_
        refine .ret ?_
        have hr := Option.some.inj h
        subst hr
        exact rrA (res_tmp h4) rfl
      · refine .skip ?_
        refine .nbk ?_
        refine .nsq ?_
        refine run_reg ?_
        refine e_end ?_
        refine g_v1 (t := 5) (u := (.int .i64 i_4)) (.int .i64 i_4) h5 rfl rfl ?_
        refine g_v1 (t := 10) (u := (.int .i64 i_4)) (.int .i64 (w64 (i_4 + 1))) rfl rfl rfl ?_
        refine g_v1 (t := 11) (u := (.int .i64 (w64 (i_4 + 1)))) (.int .i64 (w64 (i_4 + 1))) rfl rfl rfl ?_
        refine g_end ?_
        refine e_end ?_
        refine renew [(0, (Enc.enc (l_1 : List Int))), (1, (.int .i64 n_2)), (4, (.bool false)), (5, (.int .i64 (w64 (i_4 + 1))))] ⟨h0, h1, h4, rfl⟩ ?_
        rintro s ⟨h0, h1, h4, h5⟩
        refine .nlp ?_
        exact ih (w64 (i_4 + 1)) _ ⟨h0, h1, h4, h5⟩ h
    · refine .exit ?_
      refine .esq ?_
      refine .elp ?_
      refine .ebk ?_
      refine .nsq ?_
      refine .seq ?_
      refine run_reg ?_
      refine e_end ?_
      refine g_v0 (.bool false) rfl rfl ?_
      refine g_end ?_
      refine e_end ?_
      refine renew [(4, (.bool false))] rfl ?_
      rintro s h4
      refine .nsq ?_
      refine .ret ?_
      have hr := Option.some.inj h
      subst hr
      exact rrA (res_tmp h4) rfl
def s_l1Has (F : Nat) (l_1 : (List Int)) (n_2 : Int) : Option Bool :=
  s_l1Has_l1 F l_1 n_2 F 0
theorem t45 (H : H45 D σ F) (l_1 : (List Int)) (n_2 : Int) (s : Nat → V) (hs : Facts [(0, (Enc.enc (l_1 : List Int))), (1, (.int .i64 n_2))] s) (h : s_l1Has F l_1 n_2 = some r) : Run D σ (R45 r) (.run A45 []) s := by
  unfold s_l1Has at h
  obtain ⟨h0, h1⟩ := hs
  refine .seq ?_
  refine run_reg ?_
  refine e_end ?_
  refine g_v0 (.bool false) rfl rfl ?_
  refine g_end ?_
  refine e_end ?_
  refine renew [(0, (Enc.enc (l_1 : List Int))), (1, (.int .i64 n_2)), (4, (.bool false))] ⟨h0, h1, rfl⟩ ?_
  rintro s ⟨h0, h1, h4⟩
  refine .nsq ?_
  refine .seq ?_
  refine .seq ?_
  refine run_reg ?_
  refine e_end ?_
  refine g_v0 (.int .i64 0) rfl rfl ?_
  refine g_end ?_
  refine e_end ?_
  refine renew [(0, (Enc.enc (l_1 : List Int))), (1, (.int .i64 n_2)), (4, (.bool false)), (5, (.int .i64 0))] ⟨h0, h1, h4, rfl⟩ ?_
  rintro s ⟨h0, h1, h4, h5⟩
  refine .nsq ?_
  refine .block ?_
  refine .loop ?_
  exact t_f45_l1 H l_1 n_2 F 0 _ ⟨h0, h1, h4, h5⟩ h
end
def e45 (F : Nat) : Ent := ⟨45, da (fun (x : ((List Int) × Int × Unit)) => s_l1Has F x.1 x.2.1) (fun (r : Bool) => (Enc.enc (r : Bool))), 0, false, selF []⟩
theorem p45 {F : Nat} {x0 : (List Int)} {x1 : Int} {r : Bool} (h : s_l1Has F x0 x1 = some r) : (e45 F).den [Enc.enc x0, Enc.enc x1] = some (Enc.enc (r : Bool)) := da_put (f := fun (x : ((List Int) × Int × Unit)) => s_l1Has F x.1 x.2.1) (t := fun (r : Bool) => (Enc.enc (r : Bool))) (x0, x1, ()) h
theorem o45 {D : Den} {σ : Sig} {F : Nat} (hF : Fits2 Try.prog D σ) (H : H45 D σ F) : (e45 F).Ok Try.prog := by
  refine ⟨fun args r h => ?_, ⟨Try.f45, Try.func45, rfl, rfl⟩⟩
  obtain ⟨⟨x0, x1, _⟩, y, rfl, hy, rfl⟩ := da_open h
  exact contract_run hF (by kernel_rfl) Try.func45 rfl c45 (show 2 ≤ Try.f45.ntmps by decide) (t45 H x0 x1 _ ⟨rfl, rfl⟩ hy)
end Go.Zq
