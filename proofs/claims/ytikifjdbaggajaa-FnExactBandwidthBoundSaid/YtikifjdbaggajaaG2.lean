/- Functions of the program as typed functions, and that the machine runs as they say (part 2). No further condition. -/
import Derived.Test.YtikifjdbaggajaaK2
import Derived.Test.YtikifjdbaggajaaProg
import Derived.Test.YtikifjdbaggajaaChecked
import Derived.KernelRfl
import Derived.Test.YtikifjdbaggajaaG1
set_option linter.unusedVariables false
set_option linter.unusedSimpArgs false
/- Functions of the program, as typed functions, and that the machine runs as they say. -/
namespace Go.Zq
open Go.Proofs
/- cmp.isNaN[int] -/
def A80_1 : AC := (AC.seq (AC.reg [] [(I.mk (some 3) none false (X.v (A.mov (O.t 0)))), (I.mk (some 4) none false (X.v (A.mov (O.t 0)))), (I.mk (some 5) none false (X.v (A.bin BinOp.neq (O.t 3) (O.t 4)))), (I.mk (some 2) none false (X.v (A.mov (O.t 5))))] []) AC.ret)
def A80 : AC := (AC.seq (AC.reg [] [(I.mk (some 2) none false (X.v (A.mov (O.k (V.bool false)))))] []) A80_1)
def an80 : List An := []
theorem c80 : cC Try.prog Try.f80.ntmps an80 (Try.f80.body.getD .skip) = some A80 := by kernel_rfl
structure H80 (D : Den) (σ : Sig) (F : Nat) : Prop where
  mk ::
abbrev R80 (r : Bool) : (Nat → V) → Prop := RR Try.prog [.tmp 2] 0 false (Enc.enc (r : Bool))
section
variable {D : Den} {σ : Sig} {F : Nat} {r : Bool}
def cmp_isNaN_int (F : Nat) (x_1 : Int) : Option Bool :=
  some (x_1 != x_1)
theorem t80 (H : H80 D σ F) (x_1 : Int) (s : Nat → V) (hs : Facts [(0, (.int .i64 x_1))] s) (h : cmp_isNaN_int F x_1 = some r) : Run D σ (R80 r) (.run A80 []) s := by
  unfold cmp_isNaN_int at h
  have h0 := hs
  refine .seq ?_
  refine run_reg ?_
  refine e_end ?_
  refine g_v0 (.bool false) rfl rfl ?_
  refine g_end ?_
  refine e_end ?_
  refine renew [(0, (.int .i64 x_1)), (2, (.bool false))] ⟨h0, rfl⟩ ?_
  rintro s ⟨h0, h2⟩
  refine .nsq ?_
  refine .seq ?_
  refine run_reg ?_
  refine e_end ?_
  refine g_v1 (t := 0) (u := (.int .i64 x_1)) (.int .i64 x_1) h0 rfl rfl ?_
  refine g_v1 (t := 0) (u := (.int .i64 x_1)) (.int .i64 x_1) h0 rfl rfl ?_
  refine g_v2 (t1 := 3) (t2 := 4) (u1 := (.int .i64 x_1)) (u2 := (.int .i64 x_1)) (.bool (x_1 != x_1)) rfl rfl rfl rfl ?_
  refine g_v1 (t := 5) (u := (.bool (x_1 != x_1))) (.bool (x_1 != x_1)) rfl rfl rfl ?_
  refine g_end ?_
  refine e_end ?_
  refine renew [(2, (.bool (x_1 != x_1)))] rfl ?_
  rintro s h2
  refine .nsq ?_
  refine .ret ?_
  have hr := Option.some.inj h
  subst hr
  exact rrA (res_tmp h2) rfl
end
def e80 (F : Nat) : Ent := ⟨80, dn1 (cmp_isNaN_int F) (fun (r : Bool) => (Enc.enc (r : Bool))), 0, false⟩
theorem o80 {D : Den} {σ : Sig} {F : Nat} (hF : Fits2 Try.prog D σ) (H : H80 D σ F) : (e80 F).Ok Try.prog := by
  refine ⟨fun args r h => ?_, ⟨Try.f80, Try.func80, rfl, rfl⟩⟩
  obtain ⟨x0, y, rfl, hy, rfl⟩ := dn1_open h
  exact contract_run hF (by kernel_rfl) Try.func80 rfl c80 (show 1 ≤ Try.f80.ntmps by decide) (t80 H x0 _ rfl hy)
/- cmp.Compare[int] -/
def A78_5 : AC := (AC.cond (O.t 12) (AC.seq (AC.reg [] [(I.mk (some 4) none false (X.v (A.mov (O.k (V.int IntKind.i64 (Int.ofNat 0))))))] []) AC.ret) AC.skip)
def A78_6 : AC := (AC.seq (AC.reg [] [(I.mk (some 4) none false (X.v (A.mov (O.k (V.int IntKind.i64 (Int.negSucc 0))))))] []) AC.ret)
def A78_4 : AC := (AC.cond (O.t 11) (AC.seq (AC.seq (AC.reg [] [(I.mk (some 12) none false (X.v (A.mov (O.t 6))))] []) A78_5) A78_6) AC.skip)
def A78_8 : AC := (AC.cond (O.t 13) (AC.seq (AC.reg [] [(I.mk (some 4) none false (X.v (A.mov (O.k (V.int IntKind.i64 (Int.ofNat 1))))))] []) AC.ret) AC.skip)
def A78_10 : AC := (AC.cond (O.t 16) (AC.seq (AC.reg [] [(I.mk (some 4) none false (X.v (A.mov (O.k (V.int IntKind.i64 (Int.negSucc 0))))))] []) AC.ret) AC.skip)
def A78_12 : AC := (AC.cond (O.t 19) (AC.seq (AC.reg [] [(I.mk (some 4) none false (X.v (A.mov (O.k (V.int IntKind.i64 (Int.ofNat 1))))))] []) AC.ret) AC.skip)
def A78_13 : AC := (AC.seq (AC.reg [] [(I.mk (some 4) none false (X.v (A.mov (O.k (V.int IntKind.i64 (Int.ofNat 0))))))] []) AC.ret)
def A78_11 : AC := (AC.seq (AC.seq (AC.reg [] [(I.mk (some 17) none false (X.v (A.mov (O.t 0)))), (I.mk (some 18) none false (X.v (A.mov (O.t 1)))), (I.mk (some 19) none false (X.v (A.bin BinOp.gtr (O.t 17) (O.t 18))))] []) A78_12) A78_13)
def A78_9 : AC := (AC.seq (AC.seq (AC.reg [] [(I.mk (some 14) none false (X.v (A.mov (O.t 0)))), (I.mk (some 15) none false (X.v (A.mov (O.t 1)))), (I.mk (some 16) none false (X.v (A.bin BinOp.lss (O.t 14) (O.t 15))))] []) A78_10) A78_11)
def A78_7 : AC := (AC.seq (AC.seq (AC.reg [] [(I.mk (some 13) none false (X.v (A.mov (O.t 6))))] []) A78_8) A78_9)
def A78_3 : AC := (AC.seq (AC.seq (AC.reg [] [(I.mk (some 11) none false (X.v (A.mov (O.t 5))))] []) A78_4) A78_7)
def A78_2 : AC := (AC.seq (AC.reg [] [(I.mk (some 9) none false (X.v (A.mov (O.t 1)))), (I.mk (some 10) none false (X.call (O.k (V.fn 80 [] [])) [(O.t 9)])), (I.mk (some 6) none false (X.v (A.mov (O.t 10))))] []) A78_3)
def A78_1 : AC := (AC.seq (AC.reg [] [(I.mk (some 7) none false (X.v (A.mov (O.t 0)))), (I.mk (some 8) none false (X.call (O.k (V.fn 80 [] [])) [(O.t 7)])), (I.mk (some 5) none false (X.v (A.mov (O.t 8))))] []) A78_2)
def A78 : AC := (AC.seq (AC.reg [] [(I.mk (some 4) none false (X.v (A.mov (O.k (V.int IntKind.i64 (Int.ofNat 0))))))] []) A78_1)
def an78 : List An := []
theorem c78 : cC Try.prog Try.f78.ntmps an78 (Try.f78.body.getD .skip) = some A78 := by kernel_rfl
structure H78 (D : Den) (σ : Sig) (F : Nat) : Prop where
  c80 : ∀ x0 r, cmp_isNaN_int F x0 = some r → D 80 [Enc.enc x0] = some (Enc.enc (r : Bool))
  g80 : σ 80 = some (0, false)
abbrev R78 (r : Int) : (Nat → V) → Prop := RR Try.prog [.tmp 4] 0 false (Enc.enc (r : Int))
section
variable {D : Den} {σ : Sig} {F : Nat} {r : Int}
def cmp_Compare_int (F : Nat) (x_1 : Int) (y_2 : Int) : Option Int :=
  (cmp_isNaN_int F x_1).bind fun r_3 =>
  (cmp_isNaN_int F y_2).bind fun r_4 =>
  bif r_3 then
    bif r_4 then
      some 0
    else
      some (-1)
  else
    bif r_4 then
      some 1
    else
      bif decide (x_1 < y_2) then
        some (-1)
      else
        bif decide (x_1 > y_2) then
          some 1
        else
          some 0
theorem t78 (H : H78 D σ F) (x_1 : Int) (y_2 : Int) (s : Nat → V) (hs : Facts [(0, (.int .i64 x_1)), (1, (.int .i64 y_2))] s) (h : cmp_Compare_int F x_1 y_2 = some r) : Run D σ (R78 r) (.run A78 []) s := by
  unfold cmp_Compare_int at h
  obtain ⟨h0, h1⟩ := hs
  refine .seq ?_
  refine run_reg ?_
  refine e_end ?_
  refine g_v0 (.int .i64 0) rfl rfl ?_
  refine g_end ?_
  refine e_end ?_
  refine renew [(0, (.int .i64 x_1)), (1, (.int .i64 y_2)), (4, (.int .i64 0))] ⟨h0, h1, rfl⟩ ?_
  rintro s ⟨h0, h1, h4⟩
  refine .nsq ?_
  refine .seq ?_
  refine run_reg ?_
  refine e_end ?_
  refine g_v1 (t := 0) (u := (.int .i64 x_1)) (.int .i64 x_1) h0 rfl rfl ?_
  obtain ⟨r_3, E_r_3, h⟩ := bind_some h
  refine g_call (m := 0) (al := false) (r := (Enc.enc (r_3 : Bool))) [Enc.enc (x_1 : Int)] (ta_cons (v := (.int .i64 x_1)) rfl rfl rfl ta_nil) (H.c80 _ _ E_r_3) H.g80 rfl rfl rfl rfl ?_
  refine g_v1 (t := 8) (u := (.bool r_3)) (.bool r_3) rfl rfl rfl ?_
  refine g_end ?_
  refine e_end ?_
  refine renew [(0, (.int .i64 x_1)), (1, (.int .i64 y_2)), (4, (.int .i64 0)), (5, (.bool r_3))] ⟨h0, h1, h4, rfl⟩ ?_
  rintro s ⟨h0, h1, h4, h5⟩
  refine .nsq ?_
  refine .seq ?_
  refine run_reg ?_
  refine e_end ?_
  refine g_v1 (t := 1) (u := (.int .i64 y_2)) (.int .i64 y_2) h1 rfl rfl ?_
  obtain ⟨r_4, E_r_4, h⟩ := bind_some h
  refine g_call (m := 0) (al := false) (r := (Enc.enc (r_4 : Bool))) [Enc.enc (y_2 : Int)] (ta_cons (v := (.int .i64 y_2)) rfl rfl rfl ta_nil) (H.c80 _ _ E_r_4) H.g80 rfl rfl rfl rfl ?_
  refine g_v1 (t := 10) (u := (.bool r_4)) (.bool r_4) rfl rfl rfl ?_
  refine g_end ?_
  refine e_end ?_
  refine renew [(0, (.int .i64 x_1)), (1, (.int .i64 y_2)), (4, (.int .i64 0)), (5, (.bool r_3)), (6, (.bool r_4))] ⟨h0, h1, h4, h5, rfl⟩ ?_
  rintro s ⟨h0, h1, h4, h5, h6⟩
  refine .nsq ?_
  refine .seq ?_
  refine .seq ?_
  refine run_reg ?_
  refine e_end ?_
  refine g_v1 (t := 5) (u := (.bool r_3)) (.bool r_3) h5 rfl rfl ?_
  refine g_end ?_
  refine e_end ?_
  refine renew [(0, (.int .i64 x_1)), (1, (.int .i64 y_2)), (4, (.int .i64 0)), (6, (.bool r_4)), (11, (.bool r_3))] ⟨h0, h1, h4, h6, rfl⟩ ?_
  rintro s ⟨h0, h1, h4, h6, h11⟩
  refine .nsq ?_
  refine run_cond (t := r_3) h11 h (fun h => ?_) (fun h => ?_)
  · refine .seq ?_
    refine .seq ?_
    refine run_reg ?_
    refine e_end ?_
    refine g_v1 (t := 6) (u := (.bool r_4)) (.bool r_4) h6 rfl rfl ?_
    refine g_end ?_
    refine e_end ?_
    refine renew [(0, (.int .i64 x_1)), (1, (.int .i64 y_2)), (4, (.int .i64 0)), (6, (.bool r_4)), (12, (.bool r_4))] ⟨h0, h1, h4, h6, rfl⟩ ?_
    rintro s ⟨h0, h1, h4, h6, h12⟩
    refine .nsq ?_
    refine run_cond (t := r_4) h12 h (fun h => ?_) (fun h => ?_)
    · refine .seq ?_
      refine run_reg ?_
      refine e_end ?_
      refine g_v0 (.int .i64 0) rfl rfl ?_
      refine g_end ?_
      refine e_end ?_
      refine renew [(0, (.int .i64 x_1)), (1, (.int .i64 y_2)), (4, (.int .i64 0)), (6, (.bool r_4))] ⟨h0, h1, rfl, h6⟩ ?_
      rintro s ⟨h0, h1, h4, h6⟩
      refine .nsq ?_
      refine .ret ?_
      have hr := Option.some.inj h
      subst hr
      exact rrA (res_tmp h4) rfl
    · refine .skip ?_
      refine .nsq ?_
      refine .seq ?_
      refine run_reg ?_
      refine e_end ?_
      refine g_v0 (.int .i64 (-1)) rfl rfl ?_
      refine g_end ?_
      refine e_end ?_
      refine renew [(0, (.int .i64 x_1)), (1, (.int .i64 y_2)), (4, (.int .i64 (-1))), (6, (.bool r_4))] ⟨h0, h1, rfl, h6⟩ ?_
      rintro s ⟨h0, h1, h4, h6⟩
      refine .nsq ?_
      refine .ret ?_
      have hr := Option.some.inj h
      subst hr
      exact rrA (res_tmp h4) rfl
  · refine .skip ?_
    refine .nsq ?_
    refine .seq ?_
    refine .seq ?_
    refine run_reg ?_
    refine e_end ?_
    refine g_v1 (t := 6) (u := (.bool r_4)) (.bool r_4) h6 rfl rfl ?_
    refine g_end ?_
    refine e_end ?_
    refine renew [(0, (.int .i64 x_1)), (1, (.int .i64 y_2)), (4, (.int .i64 0)), (13, (.bool r_4))] ⟨h0, h1, h4, rfl⟩ ?_
    rintro s ⟨h0, h1, h4, h13⟩
    refine .nsq ?_
    refine run_cond (t := r_4) h13 h (fun h => ?_) (fun h => ?_)
    · refine .seq ?_
      refine run_reg ?_
      refine e_end ?_
      refine g_v0 (.int .i64 1) rfl rfl ?_
      refine g_end ?_
      refine e_end ?_
      refine renew [(0, (.int .i64 x_1)), (1, (.int .i64 y_2)), (4, (.int .i64 1))] ⟨h0, h1, rfl⟩ ?_
      rintro s ⟨h0, h1, h4⟩
      refine .nsq ?_
      refine .ret ?_
      have hr := Option.some.inj h
      subst hr
      exact rrA (res_tmp h4) rfl
    · refine .skip ?_
      refine .nsq ?_
      refine .seq ?_
      refine .seq ?_
      refine run_reg ?_
      refine e_end ?_
      refine g_v1 (t := 0) (u := (.int .i64 x_1)) (.int .i64 x_1) h0 rfl rfl ?_
      refine g_v1 (t := 1) (u := (.int .i64 y_2)) (.int .i64 y_2) h1 rfl rfl ?_
      refine g_v2 (t1 := 14) (t2 := 15) (u1 := (.int .i64 x_1)) (u2 := (.int .i64 y_2)) (.bool (decide (x_1 < y_2))) rfl rfl rfl rfl ?_
      refine g_end ?_
      refine e_end ?_
      refine renew [(0, (.int .i64 x_1)), (1, (.int .i64 y_2)), (4, (.int .i64 0)), (16, (.bool (decide (x_1 < y_2))))] ⟨h0, h1, h4, rfl⟩ ?_
      rintro s ⟨h0, h1, h4, h16⟩
      refine .nsq ?_
      refine run_cond (t := decide (x_1 < y_2)) h16 h (fun h => ?_) (fun h => ?_)
      · refine .seq ?_
        refine run_reg ?_
        refine e_end ?_
        refine g_v0 (.int .i64 (-1)) rfl rfl ?_
        refine g_end ?_
        refine e_end ?_
        refine renew [(0, (.int .i64 x_1)), (1, (.int .i64 y_2)), (4, (.int .i64 (-1)))] ⟨h0, h1, rfl⟩ ?_
        rintro s ⟨h0, h1, h4⟩
        refine .nsq ?_
        refine .ret ?_
        have hr := Option.some.inj h
        subst hr
        exact rrA (res_tmp h4) rfl
      · refine .skip ?_
        refine .nsq ?_
        refine .seq ?_
        refine .seq ?_
        refine run_reg ?_
        refine e_end ?_
        refine g_v1 (t := 0) (u := (.int .i64 x_1)) (.int .i64 x_1) h0 rfl rfl ?_
        refine g_v1 (t := 1) (u := (.int .i64 y_2)) (.int .i64 y_2) h1 rfl rfl ?_
        refine g_v2 (t1 := 17) (t2 := 18) (u1 := (.int .i64 x_1)) (u2 := (.int .i64 y_2)) (.bool (decide (x_1 > y_2))) rfl rfl rfl rfl ?_
        refine g_end ?_
        refine e_end ?_
        refine renew [(4, (.int .i64 0)), (19, (.bool (decide (x_1 > y_2))))] ⟨h4, rfl⟩ ?_
        rintro s ⟨h4, h19⟩
        refine .nsq ?_
        refine run_cond (t := decide (x_1 > y_2)) h19 h (fun h => ?_) (fun h => ?_)
        · refine .seq ?_
          refine run_reg ?_
          refine e_end ?_
          refine g_v0 (.int .i64 1) rfl rfl ?_
          refine g_end ?_
          refine e_end ?_
          refine renew [(4, (.int .i64 1))] rfl ?_
          rintro s h4
          refine .nsq ?_
          refine .ret ?_
          have hr := Option.some.inj h
          subst hr
          exact rrA (res_tmp h4) rfl
        · refine .skip ?_
          refine .nsq ?_
          refine .seq ?_
          refine run_reg ?_
          refine e_end ?_
          refine g_v0 (.int .i64 0) rfl rfl ?_
          refine g_end ?_
          refine e_end ?_
          refine renew [(4, (.int .i64 0))] rfl ?_
          rintro s h4
          refine .nsq ?_
          refine .ret ?_
          have hr := Option.some.inj h
          subst hr
          exact rrA (res_tmp h4) rfl
end
def e78 (F : Nat) : Ent := ⟨78, dn2 (cmp_Compare_int F) (fun (r : Int) => (Enc.enc (r : Int))), 0, false⟩
theorem o78 {D : Den} {σ : Sig} {F : Nat} (hF : Fits2 Try.prog D σ) (H : H78 D σ F) : (e78 F).Ok Try.prog := by
  refine ⟨fun args r h => ?_, ⟨Try.f78, Try.func78, rfl, rfl⟩⟩
  obtain ⟨x0, x1, y, rfl, hy, rfl⟩ := dn2_open h
  exact contract_run hF (by kernel_rfl) Try.func78 rfl c78 (show 2 ≤ Try.f78.ntmps by decide) (t78 H x0 x1 _ ⟨rfl, rfl⟩ hy)
/- slices.Compare[[]int,int] -/
def A61_5 : AC := (AC.cond (O.t 19) (AC.seq (AC.reg [] [(I.mk (some 4) none false (X.v (A.mov (O.k (V.int IntKind.i64 (Int.ofNat 1))))))] []) AC.ret) AC.skip)
def A61_9 : AC := (AC.cond (O.t 28) (AC.seq (AC.reg [] [(I.mk (some 29) none false (X.v (A.mov (O.t 8)))), (I.mk (some 4) none false (X.v (A.mov (O.t 29))))] []) AC.ret) AC.skip)
def A61_8 : AC := (AC.seq (AC.reg [] [(I.mk (some 27) none false (X.v (A.mov (O.t 8)))), (I.mk (some 28) none false (X.v (A.bin BinOp.neq (O.t 27) (O.k (V.int IntKind.i64 (Int.ofNat 0))))))] []) A61_9)
def A61_7 : AC := (AC.seq (AC.reg [] [(I.mk (some 24) none false (X.v (A.mov (O.t 6)))), (I.mk (some 25) none false (X.v (A.mov (O.t 7)))), (I.mk (some 26) none false (X.call (O.k (V.fn 78 [] [])) [(O.t 24), (O.t 25)])), (I.mk (some 8) none false (X.v (A.mov (O.t 26))))] []) A61_8)
def A61_6 : AC := (AC.seq (AC.reg [] [(I.mk (some 20) none false (X.v (A.mov (O.t 1)))), (I.mk (some 21) none false (X.v (A.mov (O.t 5)))), (I.mk (some 22) none false (X.v (A.idx (O.t 20) (O.t 21) 1))), (I.mk (some 23) none false (X.v (A.load Sh.s (O.t 22)))), (I.mk (some 7) none false (X.v (A.mov (O.t 23))))] []) A61_7)
def A61_4 : AC := (AC.seq (AC.seq (AC.reg [] [(I.mk (some 16) none false (X.v (A.mov (O.t 5)))), (I.mk (some 17) none false (X.v (A.mov (O.t 1)))), (I.mk (some 18) none false (X.v (A.len (O.t 17)))), (I.mk (some 19) none false (X.v (A.bin BinOp.geq (O.t 16) (O.t 18))))] []) A61_5) A61_6)
def A61_10 : AC := (AC.reg [] [(I.mk (some 30) none false (X.v (A.bin BinOp.add (O.t 11) (O.k (V.int IntKind.i64 (Int.ofNat 1)))))), (I.mk (some 11) none false (X.v (A.mov (O.t 30))))] [])
def A61_3 : AC := (AC.seq (AC.block 1 (AC.seq (AC.reg [] [(I.mk (some 13) none false (X.v (A.mov (O.t 11)))), (I.mk (some 14) none false (X.v (A.idx (O.t 9) (O.t 11) 1))), (I.mk (some 15) none false (X.v (A.load Sh.s (O.t 14)))), (I.mk (some 5) none false (X.v (A.mov (O.t 13)))), (I.mk (some 6) none false (X.v (A.mov (O.t 15))))] []) A61_4)) A61_10)
def A61_2 : AC := (AC.seq (AC.cond (O.t 12) AC.skip (AC.exit 0)) A61_3)
def A61_1 : AC := (AC.seq (AC.reg [] [(I.mk (some 12) none false (X.v (A.bin BinOp.lss (O.t 11) (O.t 10))))] []) A61_2)
def A61_12 : AC := (AC.cond (O.t 35) (AC.seq (AC.reg [] [(I.mk (some 4) none false (X.v (A.mov (O.k (V.int IntKind.i64 (Int.negSucc 0))))))] []) AC.ret) AC.skip)
def A61_13 : AC := (AC.seq (AC.reg [] [(I.mk (some 4) none false (X.v (A.mov (O.k (V.int IntKind.i64 (Int.ofNat 0))))))] []) AC.ret)
def A61_11 : AC := (AC.seq (AC.seq (AC.reg [] [(I.mk (some 31) none false (X.v (A.mov (O.t 0)))), (I.mk (some 32) none false (X.v (A.len (O.t 31)))), (I.mk (some 33) none false (X.v (A.mov (O.t 1)))), (I.mk (some 34) none false (X.v (A.len (O.t 33)))), (I.mk (some 35) none false (X.v (A.bin BinOp.lss (O.t 32) (O.t 34))))] []) A61_12) A61_13)
def A61_15 : AC := (AC.block 0 (AC.loop A61_1))
def A61_14 : AC := (AC.seq (AC.seq (AC.reg [] [(I.mk (some 9) none false (X.v (A.mov (O.t 0)))), (I.mk (some 10) none false (X.v (A.len (O.t 9)))), (I.mk (some 11) none false (X.v (A.mov (O.k (V.int IntKind.i64 (Int.ofNat 0))))))] []) A61_15) A61_11)
def A61 : AC := (AC.seq (AC.reg [] [(I.mk (some 4) none false (X.v (A.mov (O.k (V.int IntKind.i64 (Int.ofNat 0))))))] []) A61_14)
def an61 : List An := []
theorem c61 : cC Try.prog Try.f61.ntmps an61 (Try.f61.body.getD .skip) = some A61 := by kernel_rfl
structure H61 (D : Den) (σ : Sig) (F : Nat) : Prop where
  c78 : ∀ x0 x1 r, cmp_Compare_int F x0 x1 = some r → D 78 [Enc.enc x0, Enc.enc x1] = some (Enc.enc (r : Int))
  g78 : σ 78 = some (0, false)
abbrev R61 (r : Int) : (Nat → V) → Prop := RR Try.prog [.tmp 4] 0 false (Enc.enc (r : Int))
section
variable {D : Den} {σ : Sig} {F : Nat} {r : Int}
def slices_Compare_l1 (F : Nat) (s1_1 : (List Int)) (s2_2 : (List Int))  : Nat → Int → Option Int
  | 0, _ => none
  | k + 1, t11_6 =>
    bif decide (t11_6 < (s1_1.length : Int)) then
      (idx s1_1 t11_6).bind fun e_10 =>
      bif decide (t11_6 ≥ (s2_2.length : Int)) then
        some 1
      else
        (idx s2_2 t11_6).bind fun e_11 =>
        (cmp_Compare_int F e_10 e_11).bind fun r_12 =>
        bif (r_12 != 0) then
          some r_12
        else
          (slices_Compare_l1 F s1_1 s2_2 k) (w64 (t11_6 + 1))
    else
      bif decide ((s1_1.length : Int) < (s2_2.length : Int)) then
        some (-1)
      else
        some 0
theorem t_f61_l1 (H : H61 D σ F) (s1_1 : (List Int)) (s2_2 : (List Int))  : ∀ (k : Nat) (t11_6 : Int) (s : Nat → V), Facts [(0, (Enc.enc (s1_1 : List Int))), (1, (Enc.enc (s2_2 : List Int))), (4, (.int .i64 0)), (9, (Enc.enc (s1_1 : List Int))), (10, (.int .i64 (s1_1.length : Int))), (11, (.int .i64 t11_6))] s → slices_Compare_l1 F s1_1 s2_2 k t11_6 = some r → Run D σ (R61 r) (.run A61_1 [.lp A61_1, .bk 0, .sq A61_11]) s := by
  intro k
  induction k with
  | zero => intro t11_6 s _ h; exact nomatch (h : (none : Option _) = some r)
  | succ k ih =>
    intro t11_6 s hs h
    rw [slices_Compare_l1] at h
    obtain ⟨h0, h1, h4, h9, h10, h11⟩ := hs
    refine .seq ?_
    refine run_reg ?_
    refine e_end ?_
    refine g_v2 (t1 := 11) (t2 := 10) (u1 := (.int .i64 t11_6)) (u2 := (.int .i64 (s1_1.length : Int))) (.bool (decide (t11_6 < (s1_1.length : Int)))) h11 h10 rfl rfl ?_
    refine g_end ?_
    refine e_end ?_
    refine renew [(0, (Enc.enc (s1_1 : List Int))), (1, (Enc.enc (s2_2 : List Int))), (4, (.int .i64 0)), (9, (Enc.enc (s1_1 : List Int))), (10, (.int .i64 (s1_1.length : Int))), (11, (.int .i64 t11_6)), (12, (.bool (decide (t11_6 < (s1_1.length : Int)))))] ⟨h0, h1, h4, h9, h10, h11, rfl⟩ ?_
    rintro s ⟨h0, h1, h4, h9, h10, h11, h12⟩
    refine .nsq ?_
    refine .seq ?_
    refine run_cond (t := decide (t11_6 < (s1_1.length : Int))) h12 h (fun h => ?_) (fun h => ?_)
    · refine .skip ?_
      refine .nsq ?_
      refine .seq ?_
      refine .block ?_
      refine .seq ?_
      refine run_reg ?_
      refine e_end ?_
      refine g_v1 (t := 11) (u := (.int .i64 t11_6)) (.int .i64 t11_6) h11 rfl rfl ?_
      obtain ⟨e_10, E_e_10, h⟩ := bind_some h
      refine g_v (.ref .sh 0 [] (.int .i64 e_10)) (ev_idx (t := .sh) (lo := 0) (xs := s1_1) h9 h11 E_e_10 rfl rfl) ?_
      refine g_v1 (t := 14) (u := (.ref .sh 0 [] (.int .i64 e_10))) (.int .i64 e_10) rfl rfl rfl ?_
      refine g_v1 (t := 13) (u := (.int .i64 t11_6)) (.int .i64 t11_6) rfl rfl rfl ?_
      refine g_v1 (t := 15) (u := (.int .i64 e_10)) (.int .i64 e_10) rfl rfl rfl ?_
      refine g_end ?_
      refine e_end ?_
      refine renew [(0, (Enc.enc (s1_1 : List Int))), (1, (Enc.enc (s2_2 : List Int))), (4, (.int .i64 0)), (5, (.int .i64 t11_6)), (6, (.int .i64 e_10)), (9, (Enc.enc (s1_1 : List Int))), (10, (.int .i64 (s1_1.length : Int))), (11, (.int .i64 t11_6))] ⟨h0, h1, h4, rfl, rfl, h9, h10, h11⟩ ?_
      rintro s ⟨h0, h1, h4, h5, h6, h9, h10, h11⟩
      refine .nsq ?_
      refine .seq ?_
      refine .seq ?_
      refine run_reg ?_
      refine e_end ?_
      refine g_v1 (t := 5) (u := (.int .i64 t11_6)) (.int .i64 t11_6) h5 rfl rfl ?_
      refine g_v1 (t := 1) (u := (Enc.enc (s2_2 : List Int))) (Enc.enc (s2_2 : List Int)) h1 rfl rfl ?_
      refine g_v (.int .i64 (s2_2.length : Int)) (ev_len (xs := s2_2) rfl) ?_
      refine g_v2 (t1 := 16) (t2 := 18) (u1 := (.int .i64 t11_6)) (u2 := (.int .i64 (s2_2.length : Int))) (.bool (decide (t11_6 ≥ (s2_2.length : Int)))) rfl rfl rfl rfl ?_
      refine g_end ?_
      refine e_end ?_
      refine renew [(0, (Enc.enc (s1_1 : List Int))), (1, (Enc.enc (s2_2 : List Int))), (4, (.int .i64 0)), (5, (.int .i64 t11_6)), (6, (.int .i64 e_10)), (9, (Enc.enc (s1_1 : List Int))), (10, (.int .i64 (s1_1.length : Int))), (11, (.int .i64 t11_6)), (19, (.bool (decide (t11_6 ≥ (s2_2.length : Int)))))] ⟨h0, h1, h4, h5, h6, h9, h10, h11, rfl⟩ ?_
      rintro s ⟨h0, h1, h4, h5, h6, h9, h10, h11, h19⟩
      refine .nsq ?_
      refine run_cond (t := decide (t11_6 ≥ (s2_2.length : Int))) h19 h (fun h => ?_) (fun h => ?_)
      · refine .seq ?_
        refine run_reg ?_
        refine e_end ?_
        refine g_v0 (.int .i64 1) rfl rfl ?_
        refine g_end ?_
        refine e_end ?_
        refine renew [(0, (Enc.enc (s1_1 : List Int))), (1, (Enc.enc (s2_2 : List Int))), (4, (.int .i64 1)), (5, (.int .i64 t11_6)), (6, (.int .i64 e_10)), (9, (Enc.enc (s1_1 : List Int))), (10, (.int .i64 (s1_1.length : Int))), (11, (.int .i64 t11_6))] ⟨h0, h1, rfl, h5, h6, h9, h10, h11⟩ ?_
        rintro s ⟨h0, h1, h4, h5, h6, h9, h10, h11⟩
        refine .nsq ?_
        refine .ret ?_
        have hr := Option.some.inj h
        subst hr
        exact rrA (res_tmp h4) rfl
      · refine .skip ?_
        refine .nsq ?_
        refine .seq ?_
        refine run_reg ?_
        refine e_end ?_
        refine g_v1 (t := 1) (u := (Enc.enc (s2_2 : List Int))) (Enc.enc (s2_2 : List Int)) h1 rfl rfl ?_
        refine g_v1 (t := 5) (u := (.int .i64 t11_6)) (.int .i64 t11_6) h5 rfl rfl ?_
        obtain ⟨e_11, E_e_11, h⟩ := bind_some h
        refine g_v (.ref .sh 0 [] (.int .i64 e_11)) (ev_idx (t := .sh) (lo := 0) (xs := s2_2) rfl rfl E_e_11 rfl rfl) ?_
        refine g_v1 (t := 22) (u := (.ref .sh 0 [] (.int .i64 e_11))) (.int .i64 e_11) rfl rfl rfl ?_
        refine g_v1 (t := 23) (u := (.int .i64 e_11)) (.int .i64 e_11) rfl rfl rfl ?_
        refine g_end ?_
        refine e_end ?_
        refine renew [(0, (Enc.enc (s1_1 : List Int))), (1, (Enc.enc (s2_2 : List Int))), (4, (.int .i64 0)), (6, (.int .i64 e_10)), (7, (.int .i64 e_11)), (9, (Enc.enc (s1_1 : List Int))), (10, (.int .i64 (s1_1.length : Int))), (11, (.int .i64 t11_6))] ⟨h0, h1, h4, h6, rfl, h9, h10, h11⟩ ?_
        rintro s ⟨h0, h1, h4, h6, h7, h9, h10, h11⟩
        refine .nsq ?_
        refine .seq ?_
        refine run_reg ?_
        refine e_end ?_
        refine g_v1 (t := 6) (u := (.int .i64 e_10)) (.int .i64 e_10) h6 rfl rfl ?_
        refine g_v1 (t := 7) (u := (.int .i64 e_11)) (.int .i64 e_11) h7 rfl rfl ?_
        obtain ⟨r_12, E_r_12, h⟩ := bind_some h
        refine g_call (m := 0) (al := false) (r := (Enc.enc (r_12 : Int))) [Enc.enc (e_10 : Int), Enc.enc (e_11 : Int)] (ta_cons (v := (.int .i64 e_10)) rfl rfl rfl (ta_cons (v := (.int .i64 e_11)) rfl rfl rfl ta_nil)) (H.c78 _ _ _ E_r_12) H.g78 rfl rfl rfl rfl ?_
        refine g_v1 (t := 26) (u := (.int .i64 r_12)) (.int .i64 r_12) rfl rfl rfl ?_
        refine g_end ?_
        refine e_end ?_
        refine renew [(0, (Enc.enc (s1_1 : List Int))), (1, (Enc.enc (s2_2 : List Int))), (4, (.int .i64 0)), (8, (.int .i64 r_12)), (9, (Enc.enc (s1_1 : List Int))), (10, (.int .i64 (s1_1.length : Int))), (11, (.int .i64 t11_6))] ⟨h0, h1, h4, rfl, h9, h10, h11⟩ ?_
        rintro s ⟨h0, h1, h4, h8, h9, h10, h11⟩
        refine .nsq ?_
        refine .seq ?_
        refine run_reg ?_
        refine e_end ?_
        refine g_v1 (t := 8) (u := (.int .i64 r_12)) (.int .i64 r_12) h8 rfl rfl ?_
        refine g_v1 (t := 27) (u := (.int .i64 r_12)) (.bool (r_12 != 0)) rfl rfl rfl ?_
        refine g_end ?_
        refine e_end ?_
        refine renew [(0, (Enc.enc (s1_1 : List Int))), (1, (Enc.enc (s2_2 : List Int))), (4, (.int .i64 0)), (8, (.int .i64 r_12)), (9, (Enc.enc (s1_1 : List Int))), (10, (.int .i64 (s1_1.length : Int))), (11, (.int .i64 t11_6)), (28, (.bool (r_12 != 0)))] ⟨h0, h1, h4, h8, h9, h10, h11, rfl⟩ ?_
        rintro s ⟨h0, h1, h4, h8, h9, h10, h11, h28⟩
        refine .nsq ?_
        refine run_cond (t := (r_12 != 0)) h28 h (fun h => ?_) (fun h => ?_)
        · refine .seq ?_
          refine run_reg ?_
          refine e_end ?_
          refine g_v1 (t := 8) (u := (.int .i64 r_12)) (.int .i64 r_12) h8 rfl rfl ?_
          refine g_v1 (t := 29) (u := (.int .i64 r_12)) (.int .i64 r_12) rfl rfl rfl ?_
          refine g_end ?_
          refine e_end ?_
          refine renew [(0, (Enc.enc (s1_1 : List Int))), (1, (Enc.enc (s2_2 : List Int))), (4, (.int .i64 r_12)), (9, (Enc.enc (s1_1 : List Int))), (10, (.int .i64 (s1_1.length : Int))), (11, (.int .i64 t11_6))] ⟨h0, h1, rfl, h9, h10, h11⟩ ?_
          rintro s ⟨h0, h1, h4, h9, h10, h11⟩
          refine .nsq ?_
          refine .ret ?_
          have hr := Option.some.inj h
          subst hr
          exact rrA (res_tmp h4) rfl
        · refine .skip ?_
          refine .nbk ?_
          refine .nsq ?_
          refine run_reg ?_
          refine e_end ?_
          refine g_v1 (t := 11) (u := (.int .i64 t11_6)) (.int .i64 (w64 (t11_6 + 1))) h11 rfl rfl ?_
          refine g_v1 (t := 30) (u := (.int .i64 (w64 (t11_6 + 1)))) (.int .i64 (w64 (t11_6 + 1))) rfl rfl rfl ?_
          refine g_end ?_
          refine e_end ?_
          refine renew [(0, (Enc.enc (s1_1 : List Int))), (1, (Enc.enc (s2_2 : List Int))), (4, (.int .i64 0)), (9, (Enc.enc (s1_1 : List Int))), (10, (.int .i64 (s1_1.length : Int))), (11, (.int .i64 (w64 (t11_6 + 1))))] ⟨h0, h1, h4, h9, h10, rfl⟩ ?_
          rintro s ⟨h0, h1, h4, h9, h10, h11⟩
          refine .nlp ?_
          exact ih (w64 (t11_6 + 1)) _ ⟨h0, h1, h4, h9, h10, h11⟩ h
    · refine .exit ?_
      refine .esq ?_
      refine .elp ?_
      refine .ebk ?_
      refine .nsq ?_
      refine .seq ?_
      refine .seq ?_
      refine run_reg ?_
      refine e_end ?_
      refine g_v1 (t := 0) (u := (Enc.enc (s1_1 : List Int))) (Enc.enc (s1_1 : List Int)) h0 rfl rfl ?_
      refine g_v (.int .i64 (s1_1.length : Int)) (ev_len (xs := s1_1) rfl) ?_
      refine g_v1 (t := 1) (u := (Enc.enc (s2_2 : List Int))) (Enc.enc (s2_2 : List Int)) h1 rfl rfl ?_
      refine g_v (.int .i64 (s2_2.length : Int)) (ev_len (xs := s2_2) rfl) ?_
      refine g_v2 (t1 := 32) (t2 := 34) (u1 := (.int .i64 (s1_1.length : Int))) (u2 := (.int .i64 (s2_2.length : Int))) (.bool (decide ((s1_1.length : Int) < (s2_2.length : Int)))) rfl rfl rfl rfl ?_
      refine g_end ?_
      refine e_end ?_
      refine renew [(4, (.int .i64 0)), (35, (.bool (decide ((s1_1.length : Int) < (s2_2.length : Int)))))] ⟨h4, rfl⟩ ?_
      rintro s ⟨h4, h35⟩
      refine .nsq ?_
      refine run_cond (t := decide ((s1_1.length : Int) < (s2_2.length : Int))) h35 h (fun h => ?_) (fun h => ?_)
      · refine .seq ?_
        refine run_reg ?_
        refine e_end ?_
        refine g_v0 (.int .i64 (-1)) rfl rfl ?_
        refine g_end ?_
        refine e_end ?_
        refine renew [(4, (.int .i64 (-1)))] rfl ?_
        rintro s h4
        refine .nsq ?_
        refine .ret ?_
        have hr := Option.some.inj h
        subst hr
        exact rrA (res_tmp h4) rfl
      · refine .skip ?_
        refine .nsq ?_
        refine .seq ?_
        refine run_reg ?_
        refine e_end ?_
        refine g_v0 (.int .i64 0) rfl rfl ?_
        refine g_end ?_
        refine e_end ?_
        refine renew [(4, (.int .i64 0))] rfl ?_
        rintro s h4
        refine .nsq ?_
        refine .ret ?_
        have hr := Option.some.inj h
        subst hr
        exact rrA (res_tmp h4) rfl
def slices_Compare (F : Nat) (s1_1 : (List Int)) (s2_2 : (List Int)) : Option Int :=
  slices_Compare_l1 F s1_1 s2_2 F 0
theorem t61 (H : H61 D σ F) (s1_1 : (List Int)) (s2_2 : (List Int)) (s : Nat → V) (hs : Facts [(0, (Enc.enc (s1_1 : List Int))), (1, (Enc.enc (s2_2 : List Int)))] s) (h : slices_Compare F s1_1 s2_2 = some r) : Run D σ (R61 r) (.run A61 []) s := by
  unfold slices_Compare at h
  obtain ⟨h0, h1⟩ := hs
  refine .seq ?_
  refine run_reg ?_
  refine e_end ?_
  refine g_v0 (.int .i64 0) rfl rfl ?_
  refine g_end ?_
  refine e_end ?_
  refine renew [(0, (Enc.enc (s1_1 : List Int))), (1, (Enc.enc (s2_2 : List Int))), (4, (.int .i64 0))] ⟨h0, h1, rfl⟩ ?_
  rintro s ⟨h0, h1, h4⟩
  refine .nsq ?_
  refine .seq ?_
  refine .seq ?_
  refine run_reg ?_
  refine e_end ?_
  refine g_v1 (t := 0) (u := (Enc.enc (s1_1 : List Int))) (Enc.enc (s1_1 : List Int)) h0 rfl rfl ?_
  refine g_v (.int .i64 (s1_1.length : Int)) (ev_len (xs := s1_1) rfl) ?_
  refine g_v0 (.int .i64 0) rfl rfl ?_
  refine g_end ?_
  refine e_end ?_
  refine renew [(0, (Enc.enc (s1_1 : List Int))), (1, (Enc.enc (s2_2 : List Int))), (4, (.int .i64 0)), (9, (Enc.enc (s1_1 : List Int))), (10, (.int .i64 (s1_1.length : Int))), (11, (.int .i64 0))] ⟨h0, h1, h4, rfl, rfl, rfl⟩ ?_
  rintro s ⟨h0, h1, h4, h9, h10, h11⟩
  refine .nsq ?_
  refine .block ?_
  refine .loop ?_
  exact t_f61_l1 H s1_1 s2_2 F 0 _ ⟨h0, h1, h4, h9, h10, h11⟩ h
end
def e61 (F : Nat) : Ent := ⟨61, dn2 (slices_Compare F) (fun (r : Int) => (Enc.enc (r : Int))), 0, false⟩
theorem o61 {D : Den} {σ : Sig} {F : Nat} (hF : Fits2 Try.prog D σ) (H : H61 D σ F) : (e61 F).Ok Try.prog := by
  refine ⟨fun args r h => ?_, ⟨Try.f61, Try.func61, rfl, rfl⟩⟩
  obtain ⟨x0, x1, y, rfl, hy, rfl⟩ := dn2_open h
  exact contract_run hF (by kernel_rfl) Try.func61 rfl c61 (show 2 ≤ Try.f61.ntmps by decide) (t61 H x0 x1 _ ⟨rfl, rfl⟩ hy)
/- loop.example/g01109/impl.IsGraph -/
def A33_5 : AC := (AC.cond (O.t 48) (AC.seq (AC.reg [] [(I.mk (some 2) none false (X.v (A.mov (O.k (V.bool false)))))] []) AC.ret) AC.skip)
def A33_4 : AC := (AC.seq (AC.reg [] [(I.mk (some 17) none false (X.v (A.idxA (O.t 4) (O.k (V.int IntKind.i64 (Int.ofNat 0))) 2 1))), (I.mk (some 18) none false (X.v (A.load Sh.s (O.t 17)))), (I.mk (some 19) none false (X.v (A.bin BinOp.lss (O.t 18) (O.k (V.int IntKind.i64 (Int.ofNat 0)))))), (I.mk (some 20) none false (X.v (A.mov (O.t 19)))), (I.mk (some 21) (some (20, false)) false (X.v (A.idxA (O.t 4) (O.k (V.int IntKind.i64 (Int.ofNat 0))) 2 1))), (I.mk (some 22) (some (20, false)) false (X.v (A.load Sh.s (O.t 21)))), (I.mk (some 23) (some (20, false)) false (X.v (A.idxA (O.t 4) (O.k (V.int IntKind.i64 (Int.ofNat 1))) 2 1))), (I.mk (some 24) (some (20, false)) false (X.v (A.load Sh.s (O.t 23)))), (I.mk (some 25) (some (20, false)) false (X.v (A.bin BinOp.geq (O.t 22) (O.t 24)))), (I.mk (some 26) none false (X.v (A.pick (O.t 20) (O.k (V.bool true)) (O.t 25)))), (I.mk (some 27) none false (X.v (A.mov (O.t 26)))), (I.mk (some 28) (some (27, false)) false (X.v (A.idxA (O.t 4) (O.k (V.int IntKind.i64 (Int.ofNat 1))) 2 1))), (I.mk (some 29) (some (27, false)) false (X.v (A.load Sh.s (O.t 28)))), (I.mk (some 30) (some (27, false)) false (X.v (A.fld (O.t 1) 0 0))), (I.mk (some 31) (some (27, false)) false (X.v (A.load Sh.s (O.t 30)))), (I.mk (some 32) (some (27, false)) false (X.v (A.bin BinOp.geq (O.t 29) (O.t 31)))), (I.mk (some 33) none false (X.v (A.pick (O.t 27) (O.k (V.bool true)) (O.t 32)))), (I.mk (some 34) none false (X.v (A.mov (O.t 33)))), (I.mk (some 35) (some (34, false)) false (X.v (A.mov (O.t 3)))), (I.mk (some 36) (some (34, false)) false (X.v (A.bin BinOp.gtr (O.t 35) (O.k (V.int IntKind.i64 (Int.ofNat 0)))))), (I.mk (some 37) (some (34, false)) false (X.v (A.mov (O.t 36)))), (I.mk (some 38) (some (37, true)) false (X.v (A.fld (O.t 1) 1 1))), (I.mk (some 39) (some (37, true)) false (X.v (A.load Sh.p (O.t 38)))), (I.mk (some 40) (some (37, true)) false (X.v (A.mov (O.t 3)))), (I.mk (some 41) (some (37, true)) false (X.v (A.bin BinOp.sub (O.t 40) (O.k (V.int IntKind.i64 (Int.ofNat 1)))))), (I.mk (some 42) (some (37, true)) false (X.v (A.idx (O.t 39) (O.t 41) 2))), (I.mk (some 43) (some (37, true)) false (X.v (A.sliceA (O.t 42) 2 Sh.s))), (I.mk (some 44) (some (37, true)) false (X.v (A.sliceA (O.t 4) 2 Sh.s))), (I.mk (some 45) (some (37, true)) false (X.call (O.k (V.fn 61 [] [])) [(O.t 43), (O.t 44)])), (I.mk (some 46) (some (37, true)) false (X.v (A.bin BinOp.geq (O.t 45) (O.k (V.int IntKind.i64 (Int.ofNat 0)))))), (I.mk (some 47) (some (34, false)) false (X.v (A.pick (O.t 37) (O.t 46) (O.k (V.bool false))))), (I.mk (some 48) none false (X.v (A.pick (O.t 34) (O.k (V.bool true)) (O.t 47))))] []) A33_5)
def A33_6 : AC := (AC.reg [] [(I.mk (some 49) none false (X.v (A.bin BinOp.add (O.t 12) (O.k (V.int IntKind.i64 (Int.ofNat 1)))))), (I.mk (some 12) none false (X.v (A.mov (O.t 49))))] [])
def A33_3 : AC := (AC.seq (AC.block 1 (AC.seq (AC.reg [.clr [4]] [(I.mk (some 14) none false (X.v (A.mov (O.t 12)))), (I.mk (some 15) none false (X.v (A.idx (O.t 10) (O.t 12) 2))), (I.mk (some 16) none false (X.v (A.load (Sh.ag [Sh.s, Sh.s]) (O.t 15)))), (I.mk (some 4) none false (X.alloc (V.agg [(V.int IntKind.i64 (Int.ofNat 0)), (V.int IntKind.i64 (Int.ofNat 0))]))), (I.mk (some 3) none false (X.v (A.mov (O.t 14)))), (I.mk none none false (X.store (Sh.ag [Sh.s, Sh.s]) (O.t 4) (O.t 16)))] []) A33_4)) A33_6)
def A33_2 : AC := (AC.seq (AC.cond (O.t 13) AC.skip (AC.exit 0)) A33_3)
def A33_1 : AC := (AC.seq (AC.reg [] [(I.mk (some 13) none false (X.v (A.bin BinOp.lss (O.t 12) (O.t 11))))] []) A33_2)
def A33_7 : AC := (AC.seq (AC.reg [] [(I.mk (some 2) none false (X.v (A.mov (O.k (V.bool true)))))] []) AC.ret)
def A33_9 : AC := (AC.cond (O.t 8) (AC.seq (AC.reg [] [(I.mk (some 2) none false (X.v (A.mov (O.k (V.bool false)))))] []) AC.ret) AC.skip)
def A33_11 : AC := (AC.block 0 (AC.loop A33_1))
def A33_10 : AC := (AC.seq (AC.seq (AC.reg [] [(I.mk (some 9) none false (X.v (A.fld (O.t 1) 1 1))), (I.mk (some 10) none false (X.v (A.load Sh.p (O.t 9)))), (I.mk (some 11) none false (X.v (A.len (O.t 10)))), (I.mk (some 12) none false (X.v (A.mov (O.k (V.int IntKind.i64 (Int.ofNat 0))))))] []) A33_11) A33_7)
def A33_8 : AC := (AC.seq (AC.seq (AC.reg [] [(I.mk (some 5) none false (X.v (A.fld (O.t 1) 0 0))), (I.mk (some 6) none false (X.v (A.load Sh.s (O.t 5)))), (I.mk (some 7) none false (X.call (O.k (V.fn 60 [] [])) [(O.t 6), (O.k (V.int IntKind.i64 (Int.ofNat 0))), (O.k (V.int IntKind.i64 (Int.ofNat 8)))])), (I.mk (some 8) none false (X.v (A.un UnOp.not (O.t 7))))] []) A33_9) A33_10)
def A33 : AC := (AC.seq (AC.reg [.clr [1]] [(I.mk (some 1) none false (X.box (O.t 0))), (I.mk (some 2) none false (X.v (A.mov (O.k (V.bool false)))))] []) A33_8)
def an33 : List An := [{ id := 0, pre := [.clr [1]], ep := [] }, { id := 5, pre := [.clr [4]], ep := [] }]
theorem c33 : cC Try.prog Try.f33.ntmps an33 (Try.f33.body.getD .skip) = some A33 := by kernel_rfl
structure H33 (D : Den) (σ : Sig) (F : Nat) : Prop where
  c60 : ∀ x0 x1 x2 r, i_within F x0 x1 x2 = some r → D 60 [Enc.enc x0, Enc.enc x1, Enc.enc x2] = some (Enc.enc (r : Bool))
  g60 : σ 60 = some (0, false)
  c61 : ∀ x0 x1 r, slices_Compare F x0 x1 = some r → D 61 [Enc.enc x0, Enc.enc x1] = some (Enc.enc (r : Int))
  g61 : σ 61 = some (0, false)
abbrev R33 (r : Bool) : (Nat → V) → Prop := RR Try.prog [.tmp 2] 0 false (Enc.enc (r : Bool))
section
variable {D : Den} {σ : Sig} {F : Nat} {r : Bool}
def i_IsGraph_j1 (F : Nat) (g_1 : (Int × (List (Int × Int)))) (t12_9 : Int) (c1 : Int → Option Bool) (t48_19 : Bool) : Option Bool :=
  bif t48_19 then
    some false
  else
    c1 (w64 (t12_9 + 1))
theorem t_f33_j1 (H : H33 D σ F) (g_1 : (Int × (List (Int × Int)))) (t12_9 : Int) (c1 : Int → Option Bool) (Hc1 : ∀ (t12_9 : Int) (s : Nat → V), Facts [(1, (.ref (.bx 1) 0 [] (.agg [(.int .i64 g_1.1), (Enc.enc (g_1.2 : List (Int × Int)))]))), (2, (.bool false)), (10, (Enc.enc (g_1.2 : List (Int × Int)))), (11, (.int .i64 (g_1.2.length : Int))), (12, (.int .i64 t12_9))] s → c1 t12_9 = some r → Run D σ (R33 r) (.run A33_1 [.lp A33_1, .bk 0, .sq A33_7]) s) (t48_19 : Bool) (s : Nat → V) (hs : Facts [(1, (.ref (.bx 1) 0 [] (.agg [(.int .i64 g_1.1), (Enc.enc (g_1.2 : List (Int × Int)))]))), (2, (.bool false)), (10, (Enc.enc (g_1.2 : List (Int × Int)))), (11, (.int .i64 (g_1.2.length : Int))), (12, (.int .i64 t12_9)), (48, (.bool t48_19))] s) (h : i_IsGraph_j1 F g_1 t12_9 c1 t48_19 = some r) : Run D σ (R33 r) (.nrm [.sq A33_5, .bk 1, .sq A33_6, .lp A33_1, .bk 0, .sq A33_7]) s := by
  unfold i_IsGraph_j1 at h
  obtain ⟨h1, h2, h10, h11, h12, h48⟩ := hs
  refine .nsq ?_
  refine run_cond (t := t48_19) h48 h (fun h => ?_) (fun h => ?_)
  · refine .seq ?_
    refine run_reg ?_
    refine e_end ?_
    refine g_v0 (.bool false) rfl rfl ?_
    refine g_end ?_
    refine e_end ?_
    refine renew [(1, (.ref (.bx 1) 0 [] (.agg [(.int .i64 g_1.1), (Enc.enc (g_1.2 : List (Int × Int)))]))), (2, (.bool false)), (10, (Enc.enc (g_1.2 : List (Int × Int)))), (11, (.int .i64 (g_1.2.length : Int))), (12, (.int .i64 t12_9))] ⟨h1, rfl, h10, h11, h12⟩ ?_
    rintro s ⟨h1, h2, h10, h11, h12⟩
    refine .nsq ?_
    refine .ret ?_
    have hr := Option.some.inj h
    subst hr
    exact rrA (res_tmp h2) rfl
  · refine .skip ?_
    refine .nbk ?_
    refine .nsq ?_
    refine run_reg ?_
    refine e_end ?_
    refine g_v1 (t := 12) (u := (.int .i64 t12_9)) (.int .i64 (w64 (t12_9 + 1))) h12 rfl rfl ?_
    refine g_v1 (t := 49) (u := (.int .i64 (w64 (t12_9 + 1)))) (.int .i64 (w64 (t12_9 + 1))) rfl rfl rfl ?_
    refine g_end ?_
    refine e_end ?_
    refine renew [(1, (.ref (.bx 1) 0 [] (.agg [(.int .i64 g_1.1), (Enc.enc (g_1.2 : List (Int × Int)))]))), (2, (.bool false)), (10, (Enc.enc (g_1.2 : List (Int × Int)))), (11, (.int .i64 (g_1.2.length : Int))), (12, (.int .i64 (w64 (t12_9 + 1))))] ⟨h1, h2, h10, h11, rfl⟩ ?_
    rintro s ⟨h1, h2, h10, h11, h12⟩
    refine .nlp ?_
    exact Hc1 (w64 (t12_9 + 1)) _ ⟨h1, h2, h10, h11, h12⟩ h
def i_IsGraph_l1 (F : Nat) (g_1 : (Int × (List (Int × Int))))  : Nat → Int → Option Bool
  | 0, _ => none
  | k + 1, t12_9 =>
    bif decide (t12_9 < (g_1.2.length : Int)) then
      (idx g_1.2 t12_9).bind fun e_16 =>
      bif decide (e_16.1 < 0) then
        i_IsGraph_j1 F g_1 t12_9 (i_IsGraph_l1 F g_1 k) true
      else
        bif decide (e_16.1 ≥ e_16.2) then
          i_IsGraph_j1 F g_1 t12_9 (i_IsGraph_l1 F g_1 k) true
        else
          bif decide (e_16.2 ≥ g_1.1) then
            i_IsGraph_j1 F g_1 t12_9 (i_IsGraph_l1 F g_1 k) true
          else
            bif decide (t12_9 > 0) then
              (idx g_1.2 (w64 (t12_9 - 1))).bind fun e_20 =>
              (slices_Compare F [e_20.1, e_20.2] [e_16.1, e_16.2]).bind fun r_21 =>
              i_IsGraph_j1 F g_1 t12_9 (i_IsGraph_l1 F g_1 k) (decide (r_21 ≥ 0))
            else
              i_IsGraph_j1 F g_1 t12_9 (i_IsGraph_l1 F g_1 k) false
    else
      some true
theorem t_f33_l1 (H : H33 D σ F) (g_1 : (Int × (List (Int × Int))))  : ∀ (k : Nat) (t12_9 : Int) (s : Nat → V), Facts [(1, (.ref (.bx 1) 0 [] (.agg [(.int .i64 g_1.1), (Enc.enc (g_1.2 : List (Int × Int)))]))), (2, (.bool false)), (10, (Enc.enc (g_1.2 : List (Int × Int)))), (11, (.int .i64 (g_1.2.length : Int))), (12, (.int .i64 t12_9))] s → i_IsGraph_l1 F g_1 k t12_9 = some r → Run D σ (R33 r) (.run A33_1 [.lp A33_1, .bk 0, .sq A33_7]) s := by
  intro k
  induction k with
  | zero => intro t12_9 s _ h; exact nomatch (h : (none : Option _) = some r)
  | succ k ih =>
    intro t12_9 s hs h
    rw [i_IsGraph_l1] at h
    obtain ⟨h1, h2, h10, h11, h12⟩ := hs
    refine .seq ?_
    refine run_reg ?_
    refine e_end ?_
    refine g_v2 (t1 := 12) (t2 := 11) (u1 := (.int .i64 t12_9)) (u2 := (.int .i64 (g_1.2.length : Int))) (.bool (decide (t12_9 < (g_1.2.length : Int)))) h12 h11 rfl rfl ?_
    refine g_end ?_
    refine e_end ?_
    refine renew [(1, (.ref (.bx 1) 0 [] (.agg [(.int .i64 g_1.1), (Enc.enc (g_1.2 : List (Int × Int)))]))), (2, (.bool false)), (10, (Enc.enc (g_1.2 : List (Int × Int)))), (11, (.int .i64 (g_1.2.length : Int))), (12, (.int .i64 t12_9)), (13, (.bool (decide (t12_9 < (g_1.2.length : Int)))))] ⟨h1, h2, h10, h11, h12, rfl⟩ ?_
    rintro s ⟨h1, h2, h10, h11, h12, h13⟩
    refine .nsq ?_
    refine .seq ?_
    refine run_cond (t := decide (t12_9 < (g_1.2.length : Int))) h13 h (fun h => ?_) (fun h => ?_)
    · refine .skip ?_
      refine .nsq ?_
      refine .seq ?_
      refine .block ?_
      refine .seq ?_
      refine run_reg ?_
      refine e_clr ?_
      refine e_end ?_
      refine g_v1 (t := 12) (u := (.int .i64 t12_9)) (.int .i64 t12_9) (keep_clear (s := s) (pk := [4]) h12 rfl rfl) rfl rfl ?_
      obtain ⟨e_16, E_e_16, h⟩ := bind_some h
      refine g_v (.ref .sh 0 [] (.agg [(.int .i64 e_16.1), (.int .i64 e_16.2)])) (ev_idx (t := .sh) (lo := 0) (xs := g_1.2) (keep_clear (s := s) (pk := [4]) h10 rfl (Enc.map_enc _ (g_1.2 : List (Int × Int)))) (keep_clear (s := s) (pk := [4]) h12 rfl rfl) E_e_16 rfl rfl) ?_
      refine g_v1 (t := 15) (u := (.ref .sh 0 [] (.agg [(.int .i64 e_16.1), (.int .i64 e_16.2)]))) (.agg [(.int .i64 e_16.1), (.int .i64 e_16.2)]) rfl rfl rfl ?_
      refine g_alloc (gone_clear (s := s) (pk := [4]) (t := 4) rfl) ?_
      refine g_v1 (t := 14) (u := (.int .i64 t12_9)) (.int .i64 t12_9) rfl rfl rfl ?_
      refine g_store (.agg [(.int .i64 e_16.1), (.int .i64 e_16.2)]) (rd_of rfl rfl) (rd_of rfl rfl) (by refine ⟨by decide, by decide, rfl, rfl, rfl, ?_⟩; first | rfl | simp [V.toks, V.tokss, Enc.toks_enc]) ?_
      refine g_end ?_
      refine e_end ?_
      refine renew [(1, (.ref (.bx 1) 0 [] (.agg [(.int .i64 g_1.1), (Enc.enc (g_1.2 : List (Int × Int)))]))), (2, (.bool false)), (3, (.int .i64 t12_9)), (4, (.ref (.bx 4) 0 [] (.agg [(.int .i64 e_16.1), (.int .i64 e_16.2)]))), (10, (Enc.enc (g_1.2 : List (Int × Int)))), (11, (.int .i64 (g_1.2.length : Int))), (12, (.int .i64 t12_9))] ⟨(keep_mut (keep_clear (s := s) (pk := [4]) h1 rfl (map_bx rfl (map_agg (maps_cons rfl (maps_cons (Enc.map_enc _ (g_1.2 : List (Int × Int))) maps_nil))))) (mut_ref_ne rfl rfl (mut_agg (muts_cons rfl (muts_cons (Enc.mut_enc _ _ _ _ (g_1.2 : List (Int × Int))) rfl))))), (keep_mut (keep_clear (s := s) (pk := [4]) h2 rfl rfl) rfl), (keep_mut rfl rfl), (keep_mut rfl rfl), (keep_mut (keep_clear (s := s) (pk := [4]) h10 rfl (Enc.map_enc _ (g_1.2 : List (Int × Int)))) (Enc.mut_enc _ _ _ _ (g_1.2 : List (Int × Int)))), (keep_mut (keep_clear (s := s) (pk := [4]) h11 rfl rfl) rfl), (keep_mut (keep_clear (s := s) (pk := [4]) h12 rfl rfl) rfl)⟩ ?_
      rintro s ⟨h1, h2, h3, h4, h10, h11, h12⟩
      refine .nsq ?_
      refine .seq ?_
      refine run_reg ?_
      refine e_end ?_
      refine g_v1 (t := 4) (u := (.ref (.bx 4) 0 [] (.agg [(.int .i64 e_16.1), (.int .i64 e_16.2)]))) (.ref (.bx 4) 0 [0] (.int .i64 e_16.1)) h4 rfl rfl ?_
      refine g_v1 (t := 17) (u := (.ref (.bx 4) 0 [0] (.int .i64 e_16.1))) (.int .i64 e_16.1) rfl rfl rfl ?_
      refine g_v1 (t := 18) (u := (.int .i64 e_16.1)) (.bool (decide (e_16.1 < 0))) rfl rfl rfl ?_
      refine g_v1 (t := 19) (u := (.bool (decide (e_16.1 < 0)))) (.bool (decide (e_16.1 < 0))) rfl rfl rfl ?_
      refine split_on (c := decide (e_16.1 < 0)) h (fun hg4 h => ?_) (fun hg4 h => ?_)
      · refine g_no (Eq.trans (b := .bool (decide (e_16.1 < 0))) rfl (congrArg V.bool hg4)) ?_
        refine g_no (Eq.trans (b := .bool (decide (e_16.1 < 0))) rfl (congrArg V.bool hg4)) ?_
        refine g_no (Eq.trans (b := .bool (decide (e_16.1 < 0))) rfl (congrArg V.bool hg4)) ?_
        refine g_no (Eq.trans (b := .bool (decide (e_16.1 < 0))) rfl (congrArg V.bool hg4)) ?_
        refine g_no (Eq.trans (b := .bool (decide (e_16.1 < 0))) rfl (congrArg V.bool hg4)) ?_
        refine g_v2 (t1 := 20) (t2 := 25) (u1 := (.bool true)) (u2 := (.tup [])) (.bool true) (Eq.trans (b := .bool (decide (e_16.1 < 0))) rfl (congrArg V.bool hg4)) rfl rfl rfl ?_
        refine g_v1 (t := 26) (u := (.bool true)) (.bool true) rfl rfl rfl ?_
        refine g_no rfl ?_
        refine g_no rfl ?_
        refine g_no rfl ?_
        refine g_no rfl ?_
        refine g_no rfl ?_
        refine g_v2 (t1 := 27) (t2 := 32) (u1 := (.bool true)) (u2 := (.tup [])) (.bool true) rfl rfl rfl rfl ?_
        refine g_v1 (t := 33) (u := (.bool true)) (.bool true) rfl rfl rfl ?_
        refine g_no rfl ?_
        refine g_no rfl ?_
        refine g_no rfl ?_
        refine g_skip rfl ?_
        refine g_skip rfl ?_
        refine g_skip rfl ?_
        refine g_skip rfl ?_
        refine g_skip rfl ?_
        refine g_skip rfl ?_
        refine g_skip rfl ?_
        refine g_skip rfl ?_
        refine g_skip rfl ?_
        refine g_no rfl ?_
        refine g_v2 (t1 := 34) (t2 := 47) (u1 := (.bool true)) (u2 := (.tup [])) (.bool true) rfl rfl rfl rfl ?_
        refine g_end ?_
        refine e_end ?_
        refine renew [(1, (.ref (.bx 1) 0 [] (.agg [(.int .i64 g_1.1), (Enc.enc (g_1.2 : List (Int × Int)))]))), (2, (.bool false)), (10, (Enc.enc (g_1.2 : List (Int × Int)))), (11, (.int .i64 (g_1.2.length : Int))), (12, (.int .i64 t12_9)), (48, (.bool true))] ⟨h1, h2, h10, h11, h12, rfl⟩ ?_
        rintro s ⟨h1, h2, h10, h11, h12, h48⟩
        exact t_f33_j1 H g_1 t12_9 (i_IsGraph_l1 F g_1 k) ih true _ ⟨h1, h2, h10, h11, h12, h48⟩ h
      · refine g_yes (Eq.trans (b := .bool (decide (e_16.1 < 0))) rfl (congrArg V.bool hg4)) (g_v1 (t := 4) (u := (.ref (.bx 4) 0 [] (.agg [(.int .i64 e_16.1), (.int .i64 e_16.2)]))) (.ref (.bx 4) 0 [0] (.int .i64 e_16.1)) h4 rfl rfl ?_)
        refine g_yes (Eq.trans (b := .bool (decide (e_16.1 < 0))) rfl (congrArg V.bool hg4)) (g_v1 (t := 21) (u := (.ref (.bx 4) 0 [0] (.int .i64 e_16.1))) (.int .i64 e_16.1) rfl rfl rfl ?_)
        refine g_yes (Eq.trans (b := .bool (decide (e_16.1 < 0))) rfl (congrArg V.bool hg4)) (g_v1 (t := 4) (u := (.ref (.bx 4) 0 [] (.agg [(.int .i64 e_16.1), (.int .i64 e_16.2)]))) (.ref (.bx 4) 0 [1] (.int .i64 e_16.2)) h4 rfl rfl ?_)
        refine g_yes (Eq.trans (b := .bool (decide (e_16.1 < 0))) rfl (congrArg V.bool hg4)) (g_v1 (t := 23) (u := (.ref (.bx 4) 0 [1] (.int .i64 e_16.2))) (.int .i64 e_16.2) rfl rfl rfl ?_)
        refine g_yes (Eq.trans (b := .bool (decide (e_16.1 < 0))) rfl (congrArg V.bool hg4)) (g_v2 (t1 := 22) (t2 := 24) (u1 := (.int .i64 e_16.1)) (u2 := (.int .i64 e_16.2)) (.bool (decide (e_16.1 ≥ e_16.2))) rfl rfl rfl rfl ?_)
        refine g_v2 (t1 := 20) (t2 := 25) (u1 := (.bool false)) (u2 := (.bool (decide (e_16.1 ≥ e_16.2)))) (.bool (decide (e_16.1 ≥ e_16.2))) (Eq.trans (b := .bool (decide (e_16.1 < 0))) rfl (congrArg V.bool hg4)) rfl rfl rfl ?_
        refine g_v1 (t := 26) (u := (.bool (decide (e_16.1 ≥ e_16.2)))) (.bool (decide (e_16.1 ≥ e_16.2))) rfl rfl rfl ?_
        refine split_on (c := decide (e_16.1 ≥ e_16.2)) h (fun hg11 h => ?_) (fun hg11 h => ?_)
        · refine g_no (Eq.trans (b := .bool (decide (e_16.1 ≥ e_16.2))) rfl (congrArg V.bool hg11)) ?_
          refine g_no (Eq.trans (b := .bool (decide (e_16.1 ≥ e_16.2))) rfl (congrArg V.bool hg11)) ?_
          refine g_no (Eq.trans (b := .bool (decide (e_16.1 ≥ e_16.2))) rfl (congrArg V.bool hg11)) ?_
          refine g_no (Eq.trans (b := .bool (decide (e_16.1 ≥ e_16.2))) rfl (congrArg V.bool hg11)) ?_
          refine g_no (Eq.trans (b := .bool (decide (e_16.1 ≥ e_16.2))) rfl (congrArg V.bool hg11)) ?_
          refine g_v2 (t1 := 27) (t2 := 32) (u1 := (.bool true)) (u2 := (.tup [])) (.bool true) (Eq.trans (b := .bool (decide (e_16.1 ≥ e_16.2))) rfl (congrArg V.bool hg11)) rfl rfl rfl ?_
          refine g_v1 (t := 33) (u := (.bool true)) (.bool true) rfl rfl rfl ?_
          refine g_no rfl ?_
          refine g_no rfl ?_
          refine g_no rfl ?_
          refine g_skip rfl ?_
          refine g_skip rfl ?_
          refine g_skip rfl ?_
          refine g_skip rfl ?_
          refine g_skip rfl ?_
          refine g_skip rfl ?_
          refine g_skip rfl ?_
          refine g_skip rfl ?_
          refine g_skip rfl ?_
          refine g_no rfl ?_
          refine g_v2 (t1 := 34) (t2 := 47) (u1 := (.bool true)) (u2 := (.tup [])) (.bool true) rfl rfl rfl rfl ?_
          refine g_end ?_
          refine e_end ?_
          refine renew [(1, (.ref (.bx 1) 0 [] (.agg [(.int .i64 g_1.1), (Enc.enc (g_1.2 : List (Int × Int)))]))), (2, (.bool false)), (10, (Enc.enc (g_1.2 : List (Int × Int)))), (11, (.int .i64 (g_1.2.length : Int))), (12, (.int .i64 t12_9)), (48, (.bool true))] ⟨h1, h2, h10, h11, h12, rfl⟩ ?_
          rintro s ⟨h1, h2, h10, h11, h12, h48⟩
          exact t_f33_j1 H g_1 t12_9 (i_IsGraph_l1 F g_1 k) ih true _ ⟨h1, h2, h10, h11, h12, h48⟩ h
        · refine g_yes (Eq.trans (b := .bool (decide (e_16.1 ≥ e_16.2))) rfl (congrArg V.bool hg11)) (g_v1 (t := 4) (u := (.ref (.bx 4) 0 [] (.agg [(.int .i64 e_16.1), (.int .i64 e_16.2)]))) (.ref (.bx 4) 0 [1] (.int .i64 e_16.2)) h4 rfl rfl ?_)
          refine g_yes (Eq.trans (b := .bool (decide (e_16.1 ≥ e_16.2))) rfl (congrArg V.bool hg11)) (g_v1 (t := 28) (u := (.ref (.bx 4) 0 [1] (.int .i64 e_16.2))) (.int .i64 e_16.2) rfl rfl rfl ?_)
          refine g_yes (Eq.trans (b := .bool (decide (e_16.1 ≥ e_16.2))) rfl (congrArg V.bool hg11)) (g_v1 (t := 1) (u := (.ref (.bx 1) 0 [] (.agg [(.int .i64 g_1.1), (Enc.enc (g_1.2 : List (Int × Int)))]))) (.ref (.bx 1) 0 [0] (.int .i64 g_1.1)) h1 rfl rfl ?_)
          refine g_yes (Eq.trans (b := .bool (decide (e_16.1 ≥ e_16.2))) rfl (congrArg V.bool hg11)) (g_v1 (t := 30) (u := (.ref (.bx 1) 0 [0] (.int .i64 g_1.1))) (.int .i64 g_1.1) rfl rfl rfl ?_)
          refine g_yes (Eq.trans (b := .bool (decide (e_16.1 ≥ e_16.2))) rfl (congrArg V.bool hg11)) (g_v2 (t1 := 29) (t2 := 31) (u1 := (.int .i64 e_16.2)) (u2 := (.int .i64 g_1.1)) (.bool (decide (e_16.2 ≥ g_1.1))) rfl rfl rfl rfl ?_)
          refine g_v2 (t1 := 27) (t2 := 32) (u1 := (.bool false)) (u2 := (.bool (decide (e_16.2 ≥ g_1.1)))) (.bool (decide (e_16.2 ≥ g_1.1))) (Eq.trans (b := .bool (decide (e_16.1 ≥ e_16.2))) rfl (congrArg V.bool hg11)) rfl rfl rfl ?_
          refine g_v1 (t := 33) (u := (.bool (decide (e_16.2 ≥ g_1.1)))) (.bool (decide (e_16.2 ≥ g_1.1))) rfl rfl rfl ?_
          refine split_on (c := decide (e_16.2 ≥ g_1.1)) h (fun hg18 h => ?_) (fun hg18 h => ?_)
          · refine g_no (Eq.trans (b := .bool (decide (e_16.2 ≥ g_1.1))) rfl (congrArg V.bool hg18)) ?_
            refine g_no (Eq.trans (b := .bool (decide (e_16.2 ≥ g_1.1))) rfl (congrArg V.bool hg18)) ?_
            refine g_no (Eq.trans (b := .bool (decide (e_16.2 ≥ g_1.1))) rfl (congrArg V.bool hg18)) ?_
            refine g_skip rfl ?_
            refine g_skip rfl ?_
            refine g_skip rfl ?_
            refine g_skip rfl ?_
            refine g_skip rfl ?_
            refine g_skip rfl ?_
            refine g_skip rfl ?_
            refine g_skip rfl ?_
            refine g_skip rfl ?_
            refine g_no (Eq.trans (b := .bool (decide (e_16.2 ≥ g_1.1))) rfl (congrArg V.bool hg18)) ?_
            refine g_v2 (t1 := 34) (t2 := 47) (u1 := (.bool true)) (u2 := (.tup [])) (.bool true) (Eq.trans (b := .bool (decide (e_16.2 ≥ g_1.1))) rfl (congrArg V.bool hg18)) rfl rfl rfl ?_
            refine g_end ?_
            refine e_end ?_
            refine renew [(1, (.ref (.bx 1) 0 [] (.agg [(.int .i64 g_1.1), (Enc.enc (g_1.2 : List (Int × Int)))]))), (2, (.bool false)), (10, (Enc.enc (g_1.2 : List (Int × Int)))), (11, (.int .i64 (g_1.2.length : Int))), (12, (.int .i64 t12_9)), (48, (.bool true))] ⟨h1, h2, h10, h11, h12, rfl⟩ ?_
            rintro s ⟨h1, h2, h10, h11, h12, h48⟩
            exact t_f33_j1 H g_1 t12_9 (i_IsGraph_l1 F g_1 k) ih true _ ⟨h1, h2, h10, h11, h12, h48⟩ h
          · refine g_yes (Eq.trans (b := .bool (decide (e_16.2 ≥ g_1.1))) rfl (congrArg V.bool hg18)) (g_v1 (t := 3) (u := (.int .i64 t12_9)) (.int .i64 t12_9) h3 rfl rfl ?_)
            refine g_yes (Eq.trans (b := .bool (decide (e_16.2 ≥ g_1.1))) rfl (congrArg V.bool hg18)) (g_v1 (t := 35) (u := (.int .i64 t12_9)) (.bool (decide (t12_9 > 0))) rfl rfl rfl ?_)
            refine g_yes (Eq.trans (b := .bool (decide (e_16.2 ≥ g_1.1))) rfl (congrArg V.bool hg18)) (g_v1 (t := 36) (u := (.bool (decide (t12_9 > 0)))) (.bool (decide (t12_9 > 0))) rfl rfl rfl ?_)
            refine split_on (c := decide (t12_9 > 0)) h (fun hg21 h => ?_) (fun hg21 h => ?_)
            · refine g_yes (Eq.trans (b := .bool (decide (t12_9 > 0))) rfl (congrArg V.bool hg21)) (g_v1 (t := 1) (u := (.ref (.bx 1) 0 [] (.agg [(.int .i64 g_1.1), (Enc.enc (g_1.2 : List (Int × Int)))]))) (.ref (.bx 1) 0 [1] (Enc.enc (g_1.2 : List (Int × Int)))) h1 rfl rfl ?_)
              refine g_yes (Eq.trans (b := .bool (decide (t12_9 > 0))) rfl (congrArg V.bool hg21)) (g_v1 (t := 38) (u := (.ref (.bx 1) 0 [1] (Enc.enc (g_1.2 : List (Int × Int))))) (Enc.enc (g_1.2 : List (Int × Int))) rfl rfl rfl ?_)
              refine g_yes (Eq.trans (b := .bool (decide (t12_9 > 0))) rfl (congrArg V.bool hg21)) (g_v1 (t := 3) (u := (.int .i64 t12_9)) (.int .i64 t12_9) h3 rfl rfl ?_)
              refine g_yes (Eq.trans (b := .bool (decide (t12_9 > 0))) rfl (congrArg V.bool hg21)) (g_v1 (t := 40) (u := (.int .i64 t12_9)) (.int .i64 (w64 (t12_9 - 1))) rfl rfl rfl ?_)
              obtain ⟨e_20, E_e_20, h⟩ := bind_some h
              refine g_yes (Eq.trans (b := .bool (decide (t12_9 > 0))) rfl (congrArg V.bool hg21)) (g_v (.ref .sh 0 [] (.agg [(.int .i64 e_20.1), (.int .i64 e_20.2)])) (ev_idx (t := .sh) (lo := 0) (xs := g_1.2) rfl rfl E_e_20 rfl rfl) ?_)
              refine g_yes (Eq.trans (b := .bool (decide (t12_9 > 0))) rfl (congrArg V.bool hg21)) (g_v1 (t := 42) (u := (.ref .sh 0 [] (.agg [(.int .i64 e_20.1), (.int .i64 e_20.2)]))) (Enc.enc ([e_20.1, e_20.2] : List Int)) rfl rfl rfl ?_)
              refine g_yes (Eq.trans (b := .bool (decide (t12_9 > 0))) rfl (congrArg V.bool hg21)) (g_v1 (t := 4) (u := (.ref (.bx 4) 0 [] (.agg [(.int .i64 e_16.1), (.int .i64 e_16.2)]))) (encO (.bx 4) (.of ([e_16.1, e_16.2] : List Int))) h4 rfl rfl ?_)
              obtain ⟨r_21, E_r_21, h⟩ := bind_some h
              refine g_yes (Eq.trans (b := .bool (decide (t12_9 > 0))) rfl (congrArg V.bool hg21)) (g_call (m := 0) (al := false) (r := (Enc.enc (r_21 : Int))) [Enc.enc ([e_20.1, e_20.2] : (List Int)), Enc.enc ([e_16.1, e_16.2] : (List Int))] (ta_cons (v := (Enc.enc ([e_20.1, e_20.2] : List Int))) rfl rfl (Enc.erase_enc ([e_20.1, e_20.2] : (List Int))) (ta_cons (v := (encO (.bx 4) (.of ([e_16.1, e_16.2] : List Int)))) rfl rfl (erase_encO (o := .of [e_16.1, e_16.2])) ta_nil)) (H.c61 _ _ _ E_r_21) H.g61 rfl rfl rfl rfl ?_)
              refine g_yes (Eq.trans (b := .bool (decide (t12_9 > 0))) rfl (congrArg V.bool hg21)) (g_v1 (t := 45) (u := (.int .i64 r_21)) (.bool (decide (r_21 ≥ 0))) rfl rfl rfl ?_)
              refine g_yes (Eq.trans (b := .bool (decide (e_16.2 ≥ g_1.1))) rfl (congrArg V.bool hg18)) (g_v2 (t1 := 37) (t2 := 46) (u1 := (.bool true)) (u2 := (.bool (decide (r_21 ≥ 0)))) (.bool (decide (r_21 ≥ 0))) (Eq.trans (b := .bool (decide (t12_9 > 0))) rfl (congrArg V.bool hg21)) rfl rfl rfl ?_)
              refine g_v2 (t1 := 34) (t2 := 47) (u1 := (.bool false)) (u2 := (.bool (decide (r_21 ≥ 0)))) (.bool (decide (r_21 ≥ 0))) (Eq.trans (b := .bool (decide (e_16.2 ≥ g_1.1))) rfl (congrArg V.bool hg18)) rfl rfl rfl ?_
              refine g_end ?_
              refine e_end ?_
              refine renew [(1, (.ref (.bx 1) 0 [] (.agg [(.int .i64 g_1.1), (Enc.enc (g_1.2 : List (Int × Int)))]))), (2, (.bool false)), (10, (Enc.enc (g_1.2 : List (Int × Int)))), (11, (.int .i64 (g_1.2.length : Int))), (12, (.int .i64 t12_9)), (48, (.bool (decide (r_21 ≥ 0))))] ⟨h1, h2, h10, h11, h12, rfl⟩ ?_
              rintro s ⟨h1, h2, h10, h11, h12, h48⟩
              exact t_f33_j1 H g_1 t12_9 (i_IsGraph_l1 F g_1 k) ih (decide (r_21 ≥ 0)) _ ⟨h1, h2, h10, h11, h12, h48⟩ h
            · refine g_no (Eq.trans (b := .bool (decide (t12_9 > 0))) rfl (congrArg V.bool hg21)) ?_
              refine g_no (Eq.trans (b := .bool (decide (t12_9 > 0))) rfl (congrArg V.bool hg21)) ?_
              refine g_no (Eq.trans (b := .bool (decide (t12_9 > 0))) rfl (congrArg V.bool hg21)) ?_
              refine g_no (Eq.trans (b := .bool (decide (t12_9 > 0))) rfl (congrArg V.bool hg21)) ?_
              refine g_no (Eq.trans (b := .bool (decide (t12_9 > 0))) rfl (congrArg V.bool hg21)) ?_
              refine g_no (Eq.trans (b := .bool (decide (t12_9 > 0))) rfl (congrArg V.bool hg21)) ?_
              refine g_no (Eq.trans (b := .bool (decide (t12_9 > 0))) rfl (congrArg V.bool hg21)) ?_
              refine g_no (Eq.trans (b := .bool (decide (t12_9 > 0))) rfl (congrArg V.bool hg21)) ?_
              refine g_no (Eq.trans (b := .bool (decide (t12_9 > 0))) rfl (congrArg V.bool hg21)) ?_
              refine g_yes (Eq.trans (b := .bool (decide (e_16.2 ≥ g_1.1))) rfl (congrArg V.bool hg18)) (g_v2 (t1 := 37) (t2 := 46) (u1 := (.bool false)) (u2 := (.tup [])) (.bool false) (Eq.trans (b := .bool (decide (t12_9 > 0))) rfl (congrArg V.bool hg21)) rfl rfl rfl ?_)
              refine g_v2 (t1 := 34) (t2 := 47) (u1 := (.bool false)) (u2 := (.bool false)) (.bool false) (Eq.trans (b := .bool (decide (e_16.2 ≥ g_1.1))) rfl (congrArg V.bool hg18)) rfl rfl rfl ?_
              refine g_end ?_
              refine e_end ?_
              refine renew [(1, (.ref (.bx 1) 0 [] (.agg [(.int .i64 g_1.1), (Enc.enc (g_1.2 : List (Int × Int)))]))), (2, (.bool false)), (10, (Enc.enc (g_1.2 : List (Int × Int)))), (11, (.int .i64 (g_1.2.length : Int))), (12, (.int .i64 t12_9)), (48, (.bool false))] ⟨h1, h2, h10, h11, h12, rfl⟩ ?_
              rintro s ⟨h1, h2, h10, h11, h12, h48⟩
              exact t_f33_j1 H g_1 t12_9 (i_IsGraph_l1 F g_1 k) ih false _ ⟨h1, h2, h10, h11, h12, h48⟩ h
    · refine .exit ?_
      refine .esq ?_
      refine .elp ?_
      refine .ebk ?_
      refine .nsq ?_
      refine .seq ?_
      refine run_reg ?_
      refine e_end ?_
      refine g_v0 (.bool true) rfl rfl ?_
      refine g_end ?_
      refine e_end ?_
      refine renew [(2, (.bool true))] rfl ?_
      rintro s h2
      refine .nsq ?_
      refine .ret ?_
      have hr := Option.some.inj h
      subst hr
      exact rrA (res_tmp h2) rfl
def i_IsGraph (F : Nat) (g_1 : (Int × (List (Int × Int)))) : Option Bool :=
  (i_within F g_1.1 0 8).bind fun r_2 =>
  bif (!r_2) then
    some false
  else
    i_IsGraph_l1 F g_1 F 0
theorem t33 (H : H33 D σ F) (g_1 : (Int × (List (Int × Int)))) (s : Nat → V) (hs : Facts [(0, (.agg [(.int .i64 g_1.1), (Enc.enc (g_1.2 : List (Int × Int)))]))] s) (h : i_IsGraph F g_1 = some r) : Run D σ (R33 r) (.run A33 []) s := by
  unfold i_IsGraph at h
  have h0 := hs
  refine .seq ?_
  refine run_reg ?_
  refine e_clr ?_
  refine e_end ?_
  refine g_box (.agg [(.int .i64 g_1.1), (Enc.enc (g_1.2 : List (Int × Int)))]) (rd_of (keep_clear (s := s) (pk := [1]) h0 rfl (map_agg (maps_cons rfl (maps_cons (Enc.map_enc _ (g_1.2 : List (Int × Int))) maps_nil)))) rfl) (gone_clear (s := s) (pk := [1]) (t := 1) rfl) rfl ?_
  refine g_v0 (.bool false) rfl rfl ?_
  refine g_end ?_
  refine e_end ?_
  refine renew [(1, (.ref (.bx 1) 0 [] (.agg [(.int .i64 g_1.1), (Enc.enc (g_1.2 : List (Int × Int)))]))), (2, (.bool false))] ⟨rfl, rfl⟩ ?_
  rintro s ⟨h1, h2⟩
  refine .nsq ?_
  refine .seq ?_
  refine .seq ?_
  refine run_reg ?_
  refine e_end ?_
  refine g_v1 (t := 1) (u := (.ref (.bx 1) 0 [] (.agg [(.int .i64 g_1.1), (Enc.enc (g_1.2 : List (Int × Int)))]))) (.ref (.bx 1) 0 [0] (.int .i64 g_1.1)) h1 rfl rfl ?_
  refine g_v1 (t := 5) (u := (.ref (.bx 1) 0 [0] (.int .i64 g_1.1))) (.int .i64 g_1.1) rfl rfl rfl ?_
  obtain ⟨r_2, E_r_2, h⟩ := bind_some h
  refine g_call (m := 0) (al := false) (r := (Enc.enc (r_2 : Bool))) [Enc.enc (g_1.1 : Int), Enc.enc (0 : Int), Enc.enc (8 : Int)] (ta_cons (v := (.int .i64 g_1.1)) rfl rfl rfl (ta_cons (v := (.int .i64 0)) rfl rfl rfl (ta_cons (v := (.int .i64 8)) rfl rfl rfl ta_nil))) (H.c60 _ _ _ _ E_r_2) H.g60 rfl rfl rfl rfl ?_
  refine g_v1 (t := 7) (u := (.bool r_2)) (.bool (!r_2)) rfl rfl rfl ?_
  refine g_end ?_
  refine e_end ?_
  refine renew [(1, (.ref (.bx 1) 0 [] (.agg [(.int .i64 g_1.1), (Enc.enc (g_1.2 : List (Int × Int)))]))), (2, (.bool false)), (8, (.bool (!r_2)))] ⟨h1, h2, rfl⟩ ?_
  rintro s ⟨h1, h2, h8⟩
  refine .nsq ?_
  refine run_cond (t := (!r_2)) h8 h (fun h => ?_) (fun h => ?_)
  · refine .seq ?_
    refine run_reg ?_
    refine e_end ?_
    refine g_v0 (.bool false) rfl rfl ?_
    refine g_end ?_
    refine e_end ?_
    refine renew [(1, (.ref (.bx 1) 0 [] (.agg [(.int .i64 g_1.1), (Enc.enc (g_1.2 : List (Int × Int)))]))), (2, (.bool false))] ⟨h1, rfl⟩ ?_
    rintro s ⟨h1, h2⟩
    refine .nsq ?_
    refine .ret ?_
    have hr := Option.some.inj h
    subst hr
    exact rrA (res_tmp h2) rfl
  · refine .skip ?_
    refine .nsq ?_
    refine .seq ?_
    refine .seq ?_
    refine run_reg ?_
    refine e_end ?_
    refine g_v1 (t := 1) (u := (.ref (.bx 1) 0 [] (.agg [(.int .i64 g_1.1), (Enc.enc (g_1.2 : List (Int × Int)))]))) (.ref (.bx 1) 0 [1] (Enc.enc (g_1.2 : List (Int × Int)))) h1 rfl rfl ?_
    refine g_v1 (t := 9) (u := (.ref (.bx 1) 0 [1] (Enc.enc (g_1.2 : List (Int × Int))))) (Enc.enc (g_1.2 : List (Int × Int))) rfl rfl rfl ?_
    refine g_v (.int .i64 (g_1.2.length : Int)) (ev_len (xs := g_1.2) rfl) ?_
    refine g_v0 (.int .i64 0) rfl rfl ?_
    refine g_end ?_
    refine e_end ?_
    refine renew [(1, (.ref (.bx 1) 0 [] (.agg [(.int .i64 g_1.1), (Enc.enc (g_1.2 : List (Int × Int)))]))), (2, (.bool false)), (10, (Enc.enc (g_1.2 : List (Int × Int)))), (11, (.int .i64 (g_1.2.length : Int))), (12, (.int .i64 0))] ⟨h1, h2, rfl, rfl, rfl⟩ ?_
    rintro s ⟨h1, h2, h10, h11, h12⟩
    refine .nsq ?_
    refine .block ?_
    refine .loop ?_
    exact t_f33_l1 H g_1 F 0 _ ⟨h1, h2, h10, h11, h12⟩ h
end
def e33 (F : Nat) : Ent := ⟨33, dn1 (i_IsGraph F) (fun (r : Bool) => (Enc.enc (r : Bool))), 0, false⟩
theorem o33 {D : Den} {σ : Sig} {F : Nat} (hF : Fits2 Try.prog D σ) (H : H33 D σ F) : (e33 F).Ok Try.prog := by
  refine ⟨fun args r h => ?_, ⟨Try.f33, Try.func33, rfl, rfl⟩⟩
  obtain ⟨x0, y, rfl, hy, rfl⟩ := dn1_open h
  exact contract_run hF (by kernel_rfl) Try.func33 rfl c33 (show 1 ≤ Try.f33.ntmps by decide) (t33 H x0 _ rfl hy)
/- loop.example/g01109/impl.netOf -/
def A42_5 : AC := (AC.reg [] [(I.mk (some 28) none false (X.v (A.fld (O.t 3) 0 0))), (I.mk (some 29) none false (X.v (A.load Sh.p (O.t 28)))), (I.mk (some 30) none false (X.v (A.idxA (O.t 5) (O.k (V.int IntKind.i64 (Int.ofNat 1))) 2 1))), (I.mk (some 31) none false (X.v (A.load Sh.s (O.t 30)))), (I.mk (some 32) none false (X.v (A.idx (O.t 29) (O.t 31) 1))), (I.mk (some 33) none false (X.v (A.load Sh.s (O.t 32)))), (I.mk (some 34) none false (X.v (A.idxA (O.t 5) (O.k (V.int IntKind.i64 (Int.ofNat 0))) 2 1))), (I.mk (some 35) none false (X.v (A.load Sh.s (O.t 34)))), (I.mk (some 36) none false (X.v (A.bin BinOp.shl (O.k (V.int IntKind.i64 (Int.ofNat 1))) (O.t 35)))), (I.mk (some 37) none false (X.v (A.bin BinOp.or (O.t 33) (O.t 36)))), (I.mk (some 38) none false (X.v (A.idx (O.t 29) (O.t 31) 1))), (I.mk none none false (X.store Sh.s (O.t 38) (O.t 37)))] [])
def A42_4 : AC := (AC.seq (AC.reg [] [(I.mk (some 17) none false (X.v (A.fld (O.t 3) 0 0))), (I.mk (some 18) none false (X.v (A.load Sh.p (O.t 17)))), (I.mk (some 19) none false (X.v (A.idxA (O.t 5) (O.k (V.int IntKind.i64 (Int.ofNat 0))) 2 1))), (I.mk (some 20) none false (X.v (A.load Sh.s (O.t 19)))), (I.mk (some 21) none false (X.v (A.idx (O.t 18) (O.t 20) 1))), (I.mk (some 22) none false (X.v (A.load Sh.s (O.t 21)))), (I.mk (some 23) none false (X.v (A.idxA (O.t 5) (O.k (V.int IntKind.i64 (Int.ofNat 1))) 2 1))), (I.mk (some 24) none false (X.v (A.load Sh.s (O.t 23)))), (I.mk (some 25) none false (X.v (A.bin BinOp.shl (O.k (V.int IntKind.i64 (Int.ofNat 1))) (O.t 24)))), (I.mk (some 26) none false (X.v (A.bin BinOp.or (O.t 22) (O.t 25)))), (I.mk (some 27) none false (X.v (A.idx (O.t 18) (O.t 20) 1))), (I.mk none none false (X.store Sh.s (O.t 27) (O.t 26)))] []) A42_5)
def A42_6 : AC := (AC.reg [] [(I.mk (some 39) none false (X.v (A.bin BinOp.add (O.t 13) (O.k (V.int IntKind.i64 (Int.ofNat 1)))))), (I.mk (some 13) none false (X.v (A.mov (O.t 39))))] [])
def A42_3 : AC := (AC.seq (AC.block 1 (AC.seq (AC.reg [.clr [5]] [(I.mk (some 15) none false (X.v (A.idx (O.t 11) (O.t 13) 2))), (I.mk (some 16) none false (X.v (A.load (Sh.ag [Sh.s, Sh.s]) (O.t 15)))), (I.mk (some 5) none false (X.alloc (V.agg [(V.int IntKind.i64 (Int.ofNat 0)), (V.int IntKind.i64 (Int.ofNat 0))]))), (I.mk none none false (X.store (Sh.ag [Sh.s, Sh.s]) (O.t 5) (O.t 16)))] []) A42_4)) A42_6)
def A42_2 : AC := (AC.seq (AC.cond (O.t 14) AC.skip (AC.exit 0)) A42_3)
def A42_1 : AC := (AC.seq (AC.reg [] [(I.mk (some 14) none false (X.v (A.bin BinOp.lss (O.t 13) (O.t 12))))] []) A42_2)
def A42_7 : AC := (AC.seq (AC.reg [] [(I.mk (some 40) none false (X.v (A.load (Sh.ag [Sh.p]) (O.t 3)))), (I.mk none none false (X.store (Sh.ag [Sh.p]) (O.t 2) (O.t 40)))] []) AC.ret)
def A42_10 : AC := (AC.block 0 (AC.loop A42_1))
def A42_9 : AC := (AC.seq (AC.seq (AC.reg [] [(I.mk (some 10) none false (X.v (A.fld (O.t 1) 1 1))), (I.mk (some 11) none false (X.v (A.load Sh.p (O.t 10)))), (I.mk (some 12) none false (X.v (A.len (O.t 11)))), (I.mk (some 13) none false (X.v (A.mov (O.k (V.int IntKind.i64 (Int.ofNat 0))))))] []) A42_10) A42_7)
def A42_8 : AC := (AC.seq (AC.reg [.clr [8, 3]] [(I.mk (some 6) none false (X.v (A.fld (O.t 1) 0 0))), (I.mk (some 7) none false (X.v (A.load Sh.s (O.t 6)))), (I.mk (some 8) none false (X.mk (O.t 7) (V.int IntKind.i64 (Int.ofNat 0)))), (I.mk (some 9) none false (X.v (A.bld (V.agg [(V.sl Tok.nl Sh.s 0 [])]) [(0, 0, (O.t 8))]))), (I.mk (some 3) none false (X.alloc (V.agg [(V.sl Tok.nl Sh.s 0 [])]))), (I.mk none none false (X.store (Sh.ag [Sh.p]) (O.t 3) (O.t 9)))] []) A42_9)
def A42 : AC := (AC.seq (AC.reg [.clr [1, 2]] [(I.mk (some 1) none false (X.box (O.t 0))), (I.mk (some 2) none false (X.alloc (V.agg [(V.sl Tok.nl Sh.s 0 [])])))] []) A42_8)
def an42 : List An := [{ id := 0, pre := [.clr [1, 2]], ep := [] }, { id := 1, pre := [.clr [8, 3]], ep := [] }, { id := 4, pre := [.clr [5]], ep := [] }]
theorem c42 : cC Try.prog Try.f42.ntmps an42 (Try.f42.body.getD .skip) = some A42 := by kernel_rfl
structure H42 (D : Den) (σ : Sig) (F : Nat) : Prop where
  mk ::
abbrev R42 (r : (S1 (List Int))) : (Nat → V) → Prop := RR Try.prog [.cell 2 53] 0 true (Enc.enc (r : (S1 (List Int))))
section
variable {D : Den} {σ : Sig} {F : Nat} {r : (S1 (List Int))}
def i_netOf_l1 (F : Nat) (g_1 : (Int × (List (Int × Int))))  : Nat → (List Int) → Int → Option (S1 (List Int))
  | 0, _, _ => none
  | k + 1, w_10, t13_11 =>
    bif decide (t13_11 < (g_1.2.length : Int)) then
      (idx g_1.2 t13_11).bind fun e_19 =>
      (idx w_10 e_19.1).bind fun e_20 =>
      (shlI .i64 1 e_19.2).bind fun q_21 =>
      (idx w_10 e_19.1).bind fun e_22 =>
      (idx (w_10.set e_19.1.toNat (ior .i64 e_20 q_21)) e_19.2).bind fun e_23 =>
      (shlI .i64 1 e_19.1).bind fun q_24 =>
      (idx (w_10.set e_19.1.toNat (ior .i64 e_20 q_21)) e_19.2).bind fun e_25 =>
      (i_netOf_l1 F g_1 k) ((w_10.set e_19.1.toNat (ior .i64 e_20 q_21)).set e_19.2.toNat (ior .i64 e_23 q_24)) (w64 (t13_11 + 1))
    else
      some (S1.mk w_10)
theorem t_f42_l1 (H : H42 D σ F) (g_1 : (Int × (List (Int × Int))))  : ∀ (k : Nat) (w_10 : (List Int)) (t13_11 : Int) (s : Nat → V), Facts [(2, (.ref (.bx 2) 0 [] (.agg [(.sl .nl (Enc.shp Int) 0 [])]))), (3, (.ref (.bx 3) 0 [] (.agg [(encO (.at 8 []) (.of (w_10 : List Int)))]))), (11, (Enc.enc (g_1.2 : List (Int × Int)))), (12, (.int .i64 (g_1.2.length : Int))), (13, (.int .i64 t13_11))] s → i_netOf_l1 F g_1 k w_10 t13_11 = some r → Run D σ (R42 r) (.run A42_1 [.lp A42_1, .bk 0, .sq A42_7]) s := by
  intro k
  induction k with
  | zero => intro w_10 t13_11 s _ h; exact nomatch (h : (none : Option _) = some r)
  | succ k ih =>
    intro w_10 t13_11 s hs h
    rw [i_netOf_l1] at h
    obtain ⟨h2, h3, h11, h12, h13⟩ := hs
    refine .seq ?_
    refine run_reg ?_
    refine e_end ?_
    refine g_v2 (t1 := 13) (t2 := 12) (u1 := (.int .i64 t13_11)) (u2 := (.int .i64 (g_1.2.length : Int))) (.bool (decide (t13_11 < (g_1.2.length : Int)))) h13 h12 rfl rfl ?_
    refine g_end ?_
    refine e_end ?_
    refine renew [(2, (.ref (.bx 2) 0 [] (.agg [(.sl .nl (Enc.shp Int) 0 [])]))), (3, (.ref (.bx 3) 0 [] (.agg [(encO (.at 8 []) (.of (w_10 : List Int)))]))), (11, (Enc.enc (g_1.2 : List (Int × Int)))), (12, (.int .i64 (g_1.2.length : Int))), (13, (.int .i64 t13_11)), (14, (.bool (decide (t13_11 < (g_1.2.length : Int)))))] ⟨h2, h3, h11, h12, h13, rfl⟩ ?_
    rintro s ⟨h2, h3, h11, h12, h13, h14⟩
    refine .nsq ?_
    refine .seq ?_
    refine run_cond (t := decide (t13_11 < (g_1.2.length : Int))) h14 h (fun h => ?_) (fun h => ?_)
    · refine .skip ?_
      refine .nsq ?_
      refine .seq ?_
      refine .block ?_
      refine .seq ?_
      refine run_reg ?_
      refine e_clr ?_
      refine e_end ?_
      obtain ⟨e_19, E_e_19, h⟩ := bind_some h
      refine g_v (.ref .sh 0 [] (.agg [(.int .i64 e_19.1), (.int .i64 e_19.2)])) (ev_idx (t := .sh) (lo := 0) (xs := g_1.2) (keep_clear (s := s) (pk := [5]) h11 rfl (Enc.map_enc _ (g_1.2 : List (Int × Int)))) (keep_clear (s := s) (pk := [5]) h13 rfl rfl) E_e_19 rfl rfl) ?_
      refine g_v1 (t := 15) (u := (.ref .sh 0 [] (.agg [(.int .i64 e_19.1), (.int .i64 e_19.2)]))) (.agg [(.int .i64 e_19.1), (.int .i64 e_19.2)]) rfl rfl rfl ?_
      refine g_alloc (gone_clear (s := s) (pk := [5]) (t := 5) rfl) ?_
      refine g_store (.agg [(.int .i64 e_19.1), (.int .i64 e_19.2)]) (rd_of rfl rfl) (rd_of rfl rfl) (by refine ⟨by decide, by decide, rfl, rfl, rfl, ?_⟩; first | rfl | simp [V.toks, V.tokss, Enc.toks_enc]) ?_
      refine g_end ?_
      refine e_end ?_
      refine renew [(2, (.ref (.bx 2) 0 [] (.agg [(.sl .nl (Enc.shp Int) 0 [])]))), (3, (.ref (.bx 3) 0 [] (.agg [(encO (.at 8 []) (.of (w_10 : List Int)))]))), (5, (.ref (.bx 5) 0 [] (.agg [(.int .i64 e_19.1), (.int .i64 e_19.2)]))), (11, (Enc.enc (g_1.2 : List (Int × Int)))), (12, (.int .i64 (g_1.2.length : Int))), (13, (.int .i64 t13_11))] ⟨(keep_mut (keep_clear (s := s) (pk := [5]) h2 rfl (map_bx rfl (map_agg (maps_cons rfl maps_nil)))) (mut_ref_ne rfl rfl (mut_agg (muts_cons rfl rfl)))), (keep_mut (keep_clear (s := s) (pk := [5]) h3 rfl (map_bx rfl (map_agg (maps_cons (map_encO (r := 8) (p := []) rfl rfl) maps_nil)))) (mut_ref_ne rfl rfl (mut_agg (muts_cons (mut_own_ne rfl rfl) rfl)))), (keep_mut rfl rfl), (keep_mut (keep_clear (s := s) (pk := [5]) h11 rfl (Enc.map_enc _ (g_1.2 : List (Int × Int)))) (Enc.mut_enc _ _ _ _ (g_1.2 : List (Int × Int)))), (keep_mut (keep_clear (s := s) (pk := [5]) h12 rfl rfl) rfl), (keep_mut (keep_clear (s := s) (pk := [5]) h13 rfl rfl) rfl)⟩ ?_
      rintro s ⟨h2, h3, h5, h11, h12, h13⟩
      refine .nsq ?_
      refine .seq ?_
      refine run_reg ?_
      refine e_end ?_
      refine g_v1 (t := 3) (u := (.ref (.bx 3) 0 [] (.agg [(encO (.at 8 []) (.of (w_10 : List Int)))]))) (.ref (.bx 3) 0 [0] (encO (.at 8 []) (.of (w_10 : List Int)))) h3 rfl rfl ?_
      refine g_v1 (t := 17) (u := (.ref (.bx 3) 0 [0] (encO (.at 8 []) (.of (w_10 : List Int))))) (encO (.at 8 []) (.of (w_10 : List Int))) rfl rfl rfl ?_
      refine g_v1 (t := 5) (u := (.ref (.bx 5) 0 [] (.agg [(.int .i64 e_19.1), (.int .i64 e_19.2)]))) (.ref (.bx 5) 0 [0] (.int .i64 e_19.1)) h5 rfl rfl ?_
      refine g_v1 (t := 19) (u := (.ref (.bx 5) 0 [0] (.int .i64 e_19.1))) (.int .i64 e_19.1) rfl rfl rfl ?_
      obtain ⟨e_20, E_e_20, h⟩ := bind_some h
      refine g_v (.ref (.at 8 []) e_19.1.toNat [] (.int .i64 e_20)) (ev_idxO (o := (.of w_10)) rfl rfl E_e_20 rfl) ?_
      refine g_v1 (t := 21) (u := (.ref (.at 8 []) e_19.1.toNat [] (.int .i64 e_20))) (.int .i64 e_20) rfl rfl rfl ?_
      refine g_v1 (t := 5) (u := (.ref (.bx 5) 0 [] (.agg [(.int .i64 e_19.1), (.int .i64 e_19.2)]))) (.ref (.bx 5) 0 [1] (.int .i64 e_19.2)) h5 rfl rfl ?_
      refine g_v1 (t := 23) (u := (.ref (.bx 5) 0 [1] (.int .i64 e_19.2))) (.int .i64 e_19.2) rfl rfl rfl ?_
      obtain ⟨q_21, E_q_21, h⟩ := bind_some h
      refine g_v (.int .i64 q_21) (ev_shl rfl rfl E_q_21) ?_
      refine g_v2 (t1 := 22) (t2 := 25) (u1 := (.int .i64 e_20)) (u2 := (.int .i64 q_21)) (.int .i64 (ior .i64 e_20 q_21)) rfl rfl rfl rfl ?_
      obtain ⟨e_22, E_e_22, h⟩ := bind_some h
      refine g_v (.ref (.at 8 []) e_19.1.toNat [] (.int .i64 e_22)) (ev_idxO (o := (.of w_10)) rfl rfl E_e_22 rfl) ?_
      refine g_store (.int .i64 (ior .i64 e_20 q_21)) (rd_of rfl rfl) (rd_of rfl rfl) (by refine ⟨by decide, by decide, rfl, rfl, rfl, ?_⟩; first | rfl | simp [V.toks, V.tokss, Enc.toks_enc]) ?_
      refine g_end ?_
      refine e_end ?_
      refine renew [(2, (.ref (.bx 2) 0 [] (.agg [(.sl .nl (Enc.shp Int) 0 [])]))), (3, (.ref (.bx 3) 0 [] (.agg [(encO (.at 8 []) (.of (w_10.set e_19.1.toNat (ior .i64 e_20 q_21) : List Int)))]))), (5, (.ref (.bx 5) 0 [] (.agg [(.int .i64 e_19.1), (.int .i64 e_19.2)]))), (11, (Enc.enc (g_1.2 : List (Int × Int)))), (12, (.int .i64 (g_1.2.length : Int))), (13, (.int .i64 t13_11))] ⟨(keep_mut h2 (mut_ref_ne rfl rfl (mut_agg (muts_cons rfl rfl)))), (keep_mut h3 (mut_ref_ne rfl rfl (mut_agg (muts_cons mut_own rfl)))), (keep_mut h5 rfl), (keep_mut h11 (Enc.mut_enc _ _ _ _ (g_1.2 : List (Int × Int)))), (keep_mut h12 rfl), (keep_mut h13 rfl)⟩ ?_
      rintro s ⟨h2, h3, h5, h11, h12, h13⟩
      refine .nsq ?_
      refine run_reg ?_
      refine e_end ?_
      refine g_v1 (t := 3) (u := (.ref (.bx 3) 0 [] (.agg [(encO (.at 8 []) (.of (w_10.set e_19.1.toNat (ior .i64 e_20 q_21) : List Int)))]))) (.ref (.bx 3) 0 [0] (encO (.at 8 []) (.of (w_10.set e_19.1.toNat (ior .i64 e_20 q_21) : List Int)))) h3 rfl rfl ?_
      refine g_v1 (t := 28) (u := (.ref (.bx 3) 0 [0] (encO (.at 8 []) (.of (w_10.set e_19.1.toNat (ior .i64 e_20 q_21) : List Int))))) (encO (.at 8 []) (.of (w_10.set e_19.1.toNat (ior .i64 e_20 q_21) : List Int))) rfl rfl rfl ?_
      refine g_v1 (t := 5) (u := (.ref (.bx 5) 0 [] (.agg [(.int .i64 e_19.1), (.int .i64 e_19.2)]))) (.ref (.bx 5) 0 [1] (.int .i64 e_19.2)) h5 rfl rfl ?_
      refine g_v1 (t := 30) (u := (.ref (.bx 5) 0 [1] (.int .i64 e_19.2))) (.int .i64 e_19.2) rfl rfl rfl ?_
      obtain ⟨e_23, E_e_23, h⟩ := bind_some h
      refine g_v (.ref (.at 8 []) e_19.2.toNat [] (.int .i64 e_23)) (ev_idxO (o := (.of (w_10.set e_19.1.toNat (ior .i64 e_20 q_21)))) rfl rfl E_e_23 rfl) ?_
      refine g_v1 (t := 32) (u := (.ref (.at 8 []) e_19.2.toNat [] (.int .i64 e_23))) (.int .i64 e_23) rfl rfl rfl ?_
      refine g_v1 (t := 5) (u := (.ref (.bx 5) 0 [] (.agg [(.int .i64 e_19.1), (.int .i64 e_19.2)]))) (.ref (.bx 5) 0 [0] (.int .i64 e_19.1)) h5 rfl rfl ?_
      refine g_v1 (t := 34) (u := (.ref (.bx 5) 0 [0] (.int .i64 e_19.1))) (.int .i64 e_19.1) rfl rfl rfl ?_
      obtain ⟨q_24, E_q_24, h⟩ := bind_some h
      refine g_v (.int .i64 q_24) (ev_shl rfl rfl E_q_24) ?_
      refine g_v2 (t1 := 33) (t2 := 36) (u1 := (.int .i64 e_23)) (u2 := (.int .i64 q_24)) (.int .i64 (ior .i64 e_23 q_24)) rfl rfl rfl rfl ?_
      obtain ⟨e_25, E_e_25, h⟩ := bind_some h
      refine g_v (.ref (.at 8 []) e_19.2.toNat [] (.int .i64 e_25)) (ev_idxO (o := (.of (w_10.set e_19.1.toNat (ior .i64 e_20 q_21)))) rfl rfl E_e_25 rfl) ?_
      refine g_store (.int .i64 (ior .i64 e_23 q_24)) (rd_of rfl rfl) (rd_of rfl rfl) (by refine ⟨by decide, by decide, rfl, rfl, rfl, ?_⟩; first | rfl | simp [V.toks, V.tokss, Enc.toks_enc]) ?_
      refine g_end ?_
      refine e_end ?_
      refine renew [(2, (.ref (.bx 2) 0 [] (.agg [(.sl .nl (Enc.shp Int) 0 [])]))), (3, (.ref (.bx 3) 0 [] (.agg [(encO (.at 8 []) (.of ((w_10.set e_19.1.toNat (ior .i64 e_20 q_21)).set e_19.2.toNat (ior .i64 e_23 q_24) : List Int)))]))), (11, (Enc.enc (g_1.2 : List (Int × Int)))), (12, (.int .i64 (g_1.2.length : Int))), (13, (.int .i64 t13_11))] ⟨(keep_mut h2 (mut_ref_ne rfl rfl (mut_agg (muts_cons rfl rfl)))), (keep_mut h3 (mut_ref_ne rfl rfl (mut_agg (muts_cons mut_own rfl)))), (keep_mut h11 (Enc.mut_enc _ _ _ _ (g_1.2 : List (Int × Int)))), (keep_mut h12 rfl), (keep_mut h13 rfl)⟩ ?_
      rintro s ⟨h2, h3, h11, h12, h13⟩
      refine .nbk ?_
      refine .nsq ?_
      refine run_reg ?_
      refine e_end ?_
      refine g_v1 (t := 13) (u := (.int .i64 t13_11)) (.int .i64 (w64 (t13_11 + 1))) h13 rfl rfl ?_
      refine g_v1 (t := 39) (u := (.int .i64 (w64 (t13_11 + 1)))) (.int .i64 (w64 (t13_11 + 1))) rfl rfl rfl ?_
      refine g_end ?_
      refine e_end ?_
      refine renew [(2, (.ref (.bx 2) 0 [] (.agg [(.sl .nl (Enc.shp Int) 0 [])]))), (3, (.ref (.bx 3) 0 [] (.agg [(encO (.at 8 []) (.of ((w_10.set e_19.1.toNat (ior .i64 e_20 q_21)).set e_19.2.toNat (ior .i64 e_23 q_24) : List Int)))]))), (11, (Enc.enc (g_1.2 : List (Int × Int)))), (12, (.int .i64 (g_1.2.length : Int))), (13, (.int .i64 (w64 (t13_11 + 1))))] ⟨h2, h3, h11, h12, rfl⟩ ?_
      rintro s ⟨h2, h3, h11, h12, h13⟩
      refine .nlp ?_
      exact ih ((w_10.set e_19.1.toNat (ior .i64 e_20 q_21)).set e_19.2.toNat (ior .i64 e_23 q_24)) (w64 (t13_11 + 1)) _ ⟨h2, h3, h11, h12, h13⟩ h
    · refine .exit ?_
      refine .esq ?_
      refine .elp ?_
      refine .ebk ?_
      refine .nsq ?_
      refine .seq ?_
      refine run_reg ?_
      refine e_end ?_
      refine g_v1 (t := 3) (u := (.ref (.bx 3) 0 [] (.agg [(encO (.at 8 []) (.of (w_10 : List Int)))]))) (.agg [(encO (.at 8 []) (.of (w_10 : List Int)))]) h3 rfl rfl ?_
      refine g_store (.agg [(encO (.at 8 []) (.of (w_10 : List Int)))]) (rd_of h2 rfl) (rd_of rfl rfl) (by refine ⟨by decide, by decide, rfl, rfl, rfl, ?_⟩; first | rfl | simp [V.toks, V.tokss, Enc.toks_enc]) ?_
      refine g_end ?_
      refine e_end ?_
      refine renew [(2, (.ref (.bx 2) 0 [] (.agg [(encO (.at 8 []) (.of (w_10 : List Int)))])))] (keep_mut h2 rfl) ?_
      rintro s h2
      refine .nsq ?_
      refine .ret ?_
      have hr := Option.some.inj h
      subst hr
      exact rrA (res_cell h2 rfl) (fin_ret1 (fin_agg (fins_cons (fin_own (o := .of w_10)) fins_nil)))
def i_netOf (F : Nat) (g_1 : (Int × (List (Int × Int)))) : Option (S1 (List Int)) :=
  (mkN g_1.1 0).bind fun mk_2 =>
  i_netOf_l1 F g_1 F mk_2 0
theorem t42 (H : H42 D σ F) (g_1 : (Int × (List (Int × Int)))) (s : Nat → V) (hs : Facts [(0, (.agg [(.int .i64 g_1.1), (Enc.enc (g_1.2 : List (Int × Int)))]))] s) (h : i_netOf F g_1 = some r) : Run D σ (R42 r) (.run A42 []) s := by
  unfold i_netOf at h
  have h0 := hs
  refine .seq ?_
  refine run_reg ?_
  refine e_clr ?_
  refine e_end ?_
  refine g_box (.agg [(.int .i64 g_1.1), (Enc.enc (g_1.2 : List (Int × Int)))]) (rd_of (keep_clear (s := s) (pk := [1, 2]) h0 rfl (map_agg (maps_cons rfl (maps_cons (Enc.map_enc _ (g_1.2 : List (Int × Int))) maps_nil)))) rfl) (gone_clear (s := s) (pk := [1, 2]) (t := 1) rfl) rfl ?_
  refine g_alloc (gone_clear (s := s) (pk := [1, 2]) (t := 2) rfl) ?_
  refine g_end ?_
  refine e_end ?_
  refine renew [(1, (.ref (.bx 1) 0 [] (.agg [(.int .i64 g_1.1), (Enc.enc (g_1.2 : List (Int × Int)))]))), (2, (.ref (.bx 2) 0 [] (.agg [(.sl .nl (Enc.shp Int) 0 [])])))] ⟨rfl, rfl⟩ ?_
  rintro s ⟨h1, h2⟩
  refine .nsq ?_
  refine .seq ?_
  refine run_reg ?_
  refine e_clr ?_
  refine e_end ?_
  refine g_v1 (t := 1) (u := (.ref (.bx 1) 0 [] (.agg [(.int .i64 g_1.1), (Enc.enc (g_1.2 : List (Int × Int)))]))) (.ref (.bx 1) 0 [0] (.int .i64 g_1.1)) (keep_clear (s := s) (pk := [8, 3]) h1 rfl (map_bx rfl (map_agg (maps_cons rfl (maps_cons (Enc.map_enc _ (g_1.2 : List (Int × Int))) maps_nil))))) rfl rfl ?_
  refine g_v1 (t := 6) (u := (.ref (.bx 1) 0 [0] (.int .i64 g_1.1))) (.int .i64 g_1.1) rfl rfl rfl ?_
  obtain ⟨mk_2, E_mk_2, h⟩ := bind_some h
  refine g_mk (0 : Int) rfl rfl (gone_clear (s := s) (pk := [8, 3]) (t := 8) rfl) E_mk_2 ?_
  refine g_v1 (t := 8) (u := (encO (.at 8 []) (.of (mk_2 : List Int)))) (.agg [(encO (.at 8 []) (.of (mk_2 : List Int)))]) rfl rfl rfl ?_
  refine g_alloc (gone_clear (s := s) (pk := [8, 3]) (t := 3) rfl) ?_
  refine g_store (.agg [(encO (.at 8 []) (.of (mk_2 : List Int)))]) (rd_of rfl rfl) (rd_of rfl rfl) (by refine ⟨by decide, by decide, rfl, rfl, rfl, ?_⟩; first | rfl | simp [V.toks, V.tokss, Enc.toks_enc]) ?_
  refine g_end ?_
  refine e_end ?_
  refine renew [(1, (.ref (.bx 1) 0 [] (.agg [(.int .i64 g_1.1), (Enc.enc (g_1.2 : List (Int × Int)))]))), (2, (.ref (.bx 2) 0 [] (.agg [(.sl .nl (Enc.shp Int) 0 [])]))), (3, (.ref (.bx 3) 0 [] (.agg [(encO (.at 8 []) (.of (mk_2 : List Int)))])))] ⟨(keep_mut (keep_clear (s := s) (pk := [8, 3]) h1 rfl (map_bx rfl (map_agg (maps_cons rfl (maps_cons (Enc.map_enc _ (g_1.2 : List (Int × Int))) maps_nil))))) (mut_ref_ne rfl rfl (mut_agg (muts_cons rfl (muts_cons (Enc.mut_enc _ _ _ _ (g_1.2 : List (Int × Int))) rfl))))), (keep_mut (keep_clear (s := s) (pk := [8, 3]) h2 rfl (map_bx rfl (map_agg (maps_cons rfl maps_nil)))) (mut_ref_ne rfl rfl (mut_agg (muts_cons rfl rfl)))), (keep_mut rfl rfl)⟩ ?_
  rintro s ⟨h1, h2, h3⟩
  refine .nsq ?_
  refine .seq ?_
  refine .seq ?_
  refine run_reg ?_
  refine e_end ?_
  refine g_v1 (t := 1) (u := (.ref (.bx 1) 0 [] (.agg [(.int .i64 g_1.1), (Enc.enc (g_1.2 : List (Int × Int)))]))) (.ref (.bx 1) 0 [1] (Enc.enc (g_1.2 : List (Int × Int)))) h1 rfl rfl ?_
  refine g_v1 (t := 10) (u := (.ref (.bx 1) 0 [1] (Enc.enc (g_1.2 : List (Int × Int))))) (Enc.enc (g_1.2 : List (Int × Int))) rfl rfl rfl ?_
  refine g_v (.int .i64 (g_1.2.length : Int)) (ev_len (xs := g_1.2) rfl) ?_
  refine g_v0 (.int .i64 0) rfl rfl ?_
  refine g_end ?_
  refine e_end ?_
  refine renew [(2, (.ref (.bx 2) 0 [] (.agg [(.sl .nl (Enc.shp Int) 0 [])]))), (3, (.ref (.bx 3) 0 [] (.agg [(encO (.at 8 []) (.of (mk_2 : List Int)))]))), (11, (Enc.enc (g_1.2 : List (Int × Int)))), (12, (.int .i64 (g_1.2.length : Int))), (13, (.int .i64 0))] ⟨h2, h3, rfl, rfl, rfl⟩ ?_
  rintro s ⟨h2, h3, h11, h12, h13⟩
  refine .nsq ?_
  refine .block ?_
  refine .loop ?_
  exact t_f42_l1 H g_1 F mk_2 0 _ ⟨h2, h3, h11, h12, h13⟩ h
end
def e42 (F : Nat) : Ent := ⟨42, dn1 (i_netOf F) (fun (r : (S1 (List Int))) => (Enc.enc (r : (S1 (List Int))))), 0, true⟩
theorem o42 {D : Den} {σ : Sig} {F : Nat} (hF : Fits2 Try.prog D σ) (H : H42 D σ F) : (e42 F).Ok Try.prog := by
  refine ⟨fun args r h => ?_, ⟨Try.f42, Try.func42, rfl, rfl⟩⟩
  obtain ⟨x0, y, rfl, hy, rfl⟩ := dn1_open h
  exact contract_run hF (by kernel_rfl) Try.func42 rfl c42 (show 1 ≤ Try.f42.ntmps by decide) (t42 H x0 _ rfl hy)
/- (loop.example/g01109/impl.net).around -/
def A74_5 : AC := (AC.cond (O.t 21) (AC.reg [] [(I.mk (some 22) none false (X.v (A.mov (O.t 5)))), (I.mk (some 23) none false (X.v (A.mov (O.t 7)))), (I.mk (some 24) none false (X.v (A.bin BinOp.or (O.t 22) (O.t 23)))), (I.mk (some 5) none false (X.v (A.mov (O.t 24))))] []) AC.skip)
def A74_4 : AC := (AC.seq (AC.reg [] [(I.mk (some 17) none false (X.v (A.mov (O.t 1)))), (I.mk (some 18) none false (X.v (A.mov (O.t 6)))), (I.mk (some 19) none false (X.v (A.bin BinOp.shr (O.t 17) (O.t 18)))), (I.mk (some 20) none false (X.v (A.bin BinOp.and (O.t 19) (O.k (V.int IntKind.i64 (Int.ofNat 1)))))), (I.mk (some 21) none false (X.v (A.bin BinOp.eql (O.t 20) (O.k (V.int IntKind.i64 (Int.ofNat 1))))))] []) A74_5)
def A74_6 : AC := (AC.reg [] [(I.mk (some 25) none false (X.v (A.bin BinOp.add (O.t 12) (O.k (V.int IntKind.i64 (Int.ofNat 1)))))), (I.mk (some 12) none false (X.v (A.mov (O.t 25))))] [])
def A74_3 : AC := (AC.seq (AC.block 1 (AC.seq (AC.reg [] [(I.mk (some 14) none false (X.v (A.mov (O.t 12)))), (I.mk (some 15) none false (X.v (A.idx (O.t 10) (O.t 12) 1))), (I.mk (some 16) none false (X.v (A.load Sh.s (O.t 15)))), (I.mk (some 6) none false (X.v (A.mov (O.t 14)))), (I.mk (some 7) none false (X.v (A.mov (O.t 16))))] []) A74_4)) A74_6)
def A74_2 : AC := (AC.seq (AC.cond (O.t 13) AC.skip (AC.exit 0)) A74_3)
def A74_1 : AC := (AC.seq (AC.reg [] [(I.mk (some 13) none false (X.v (A.bin BinOp.lss (O.t 12) (O.t 11))))] []) A74_2)
def A74_7 : AC := (AC.seq (AC.reg [] [(I.mk (some 26) none false (X.v (A.mov (O.t 5)))), (I.mk (some 4) none false (X.v (A.mov (O.t 26))))] []) AC.ret)
def A74_10 : AC := (AC.block 0 (AC.loop A74_1))
def A74_9 : AC := (AC.seq (AC.seq (AC.reg [] [(I.mk (some 9) none false (X.v (A.fld (O.t 2) 0 0))), (I.mk (some 10) none false (X.v (A.load Sh.p (O.t 9)))), (I.mk (some 11) none false (X.v (A.len (O.t 10)))), (I.mk (some 12) none false (X.v (A.mov (O.k (V.int IntKind.i64 (Int.ofNat 0))))))] []) A74_10) A74_7)
def A74_8 : AC := (AC.seq (AC.reg [] [(I.mk (some 8) none false (X.v (A.mov (O.t 1)))), (I.mk (some 5) none false (X.v (A.mov (O.t 8))))] []) A74_9)
def A74 : AC := (AC.seq (AC.reg [.clr [2]] [(I.mk (some 2) none false (X.box (O.t 0))), (I.mk (some 4) none false (X.v (A.mov (O.k (V.int IntKind.i64 (Int.ofNat 0))))))] []) A74_8)
def an74 : List An := [{ id := 0, pre := [.clr [2]], ep := [] }]
theorem c74 : cC Try.prog Try.f74.ntmps an74 (Try.f74.body.getD .skip) = some A74 := by kernel_rfl
structure H74 (D : Den) (σ : Sig) (F : Nat) : Prop where
  mk ::
abbrev R74 (r : Int) : (Nat → V) → Prop := RR Try.prog [.tmp 4] 0 false (Enc.enc (r : Int))
section
variable {D : Den} {σ : Sig} {F : Nat} {r : Int}
def i_net_around_j1 (F : Nat) (set_2 : Int) (w_1 : (S1 (List Int))) (t12_7 : Int) (c1 : Int → Int → Option Int) (out_13 : Int) : Option Int :=
  c1 out_13 (w64 (t12_7 + 1))
theorem t_f74_j1 (H : H74 D σ F) (set_2 : Int) (w_1 : (S1 (List Int))) (t12_7 : Int) (c1 : Int → Int → Option Int) (Hc1 : ∀ (out_6 : Int) (t12_7 : Int) (s : Nat → V), Facts [(1, (.int .i64 set_2)), (4, (.int .i64 0)), (5, (.int .i64 out_6)), (10, (Enc.enc (w_1.a : List Int))), (11, (.int .i64 (w_1.a.length : Int))), (12, (.int .i64 t12_7))] s → c1 out_6 t12_7 = some r → Run D σ (R74 r) (.run A74_1 [.lp A74_1, .bk 0, .sq A74_7]) s) (out_13 : Int) (s : Nat → V) (hs : Facts [(1, (.int .i64 set_2)), (4, (.int .i64 0)), (5, (.int .i64 out_13)), (10, (Enc.enc (w_1.a : List Int))), (11, (.int .i64 (w_1.a.length : Int))), (12, (.int .i64 t12_7))] s) (h : i_net_around_j1 F set_2 w_1 t12_7 c1 out_13 = some r) : Run D σ (R74 r) (.nrm [.bk 1, .sq A74_6, .lp A74_1, .bk 0, .sq A74_7]) s := by
  unfold i_net_around_j1 at h
  obtain ⟨h1, h4, h5, h10, h11, h12⟩ := hs
  refine .nbk ?_
  refine .nsq ?_
  refine run_reg ?_
  refine e_end ?_
  refine g_v1 (t := 12) (u := (.int .i64 t12_7)) (.int .i64 (w64 (t12_7 + 1))) h12 rfl rfl ?_
  refine g_v1 (t := 25) (u := (.int .i64 (w64 (t12_7 + 1)))) (.int .i64 (w64 (t12_7 + 1))) rfl rfl rfl ?_
  refine g_end ?_
  refine e_end ?_
  refine renew [(1, (.int .i64 set_2)), (4, (.int .i64 0)), (5, (.int .i64 out_13)), (10, (Enc.enc (w_1.a : List Int))), (11, (.int .i64 (w_1.a.length : Int))), (12, (.int .i64 (w64 (t12_7 + 1))))] ⟨h1, h4, h5, h10, h11, rfl⟩ ?_
  rintro s ⟨h1, h4, h5, h10, h11, h12⟩
  refine .nlp ?_
  exact Hc1 out_13 (w64 (t12_7 + 1)) _ ⟨h1, h4, h5, h10, h11, h12⟩ h
def i_net_around_l1 (F : Nat) (set_2 : Int) (w_1 : (S1 (List Int)))  : Nat → Int → Int → Option Int
  | 0, _, _ => none
  | k + 1, out_6, t12_7 =>
    bif decide (t12_7 < (w_1.a.length : Int)) then
      (idx w_1.a t12_7).bind fun e_11 =>
      (shrI .i64 set_2 t12_7).bind fun q_12 =>
      bif ((iand .i64 q_12 1) == 1) then
        i_net_around_j1 F set_2 w_1 t12_7 (i_net_around_l1 F set_2 w_1 k) (ior .i64 out_6 e_11)
      else
        i_net_around_j1 F set_2 w_1 t12_7 (i_net_around_l1 F set_2 w_1 k) out_6
    else
      some out_6
theorem t_f74_l1 (H : H74 D σ F) (set_2 : Int) (w_1 : (S1 (List Int)))  : ∀ (k : Nat) (out_6 : Int) (t12_7 : Int) (s : Nat → V), Facts [(1, (.int .i64 set_2)), (4, (.int .i64 0)), (5, (.int .i64 out_6)), (10, (Enc.enc (w_1.a : List Int))), (11, (.int .i64 (w_1.a.length : Int))), (12, (.int .i64 t12_7))] s → i_net_around_l1 F set_2 w_1 k out_6 t12_7 = some r → Run D σ (R74 r) (.run A74_1 [.lp A74_1, .bk 0, .sq A74_7]) s := by
  intro k
  induction k with
  | zero => intro out_6 t12_7 s _ h; exact nomatch (h : (none : Option _) = some r)
  | succ k ih =>
    intro out_6 t12_7 s hs h
    rw [i_net_around_l1] at h
    obtain ⟨h1, h4, h5, h10, h11, h12⟩ := hs
    refine .seq ?_
    refine run_reg ?_
    refine e_end ?_
    refine g_v2 (t1 := 12) (t2 := 11) (u1 := (.int .i64 t12_7)) (u2 := (.int .i64 (w_1.a.length : Int))) (.bool (decide (t12_7 < (w_1.a.length : Int)))) h12 h11 rfl rfl ?_
    refine g_end ?_
    refine e_end ?_
    refine renew [(1, (.int .i64 set_2)), (4, (.int .i64 0)), (5, (.int .i64 out_6)), (10, (Enc.enc (w_1.a : List Int))), (11, (.int .i64 (w_1.a.length : Int))), (12, (.int .i64 t12_7)), (13, (.bool (decide (t12_7 < (w_1.a.length : Int)))))] ⟨h1, h4, h5, h10, h11, h12, rfl⟩ ?_
    rintro s ⟨h1, h4, h5, h10, h11, h12, h13⟩
    refine .nsq ?_
    refine .seq ?_
    refine run_cond (t := decide (t12_7 < (w_1.a.length : Int))) h13 h (fun h => ?_) (fun h => ?_)
    · refine .skip ?_
      refine .nsq ?_
      refine .seq ?_
      refine .block ?_
      refine .seq ?_
      refine run_reg ?_
      refine e_end ?_
      refine g_v1 (t := 12) (u := (.int .i64 t12_7)) (.int .i64 t12_7) h12 rfl rfl ?_
      obtain ⟨e_11, E_e_11, h⟩ := bind_some h
      refine g_v (.ref .sh 0 [] (.int .i64 e_11)) (ev_idx (t := .sh) (lo := 0) (xs := w_1.a) h10 h12 E_e_11 rfl rfl) ?_
      refine g_v1 (t := 15) (u := (.ref .sh 0 [] (.int .i64 e_11))) (.int .i64 e_11) rfl rfl rfl ?_
      refine g_v1 (t := 14) (u := (.int .i64 t12_7)) (.int .i64 t12_7) rfl rfl rfl ?_
      refine g_v1 (t := 16) (u := (.int .i64 e_11)) (.int .i64 e_11) rfl rfl rfl ?_
      refine g_end ?_
      refine e_end ?_
      refine renew [(1, (.int .i64 set_2)), (4, (.int .i64 0)), (5, (.int .i64 out_6)), (6, (.int .i64 t12_7)), (7, (.int .i64 e_11)), (10, (Enc.enc (w_1.a : List Int))), (11, (.int .i64 (w_1.a.length : Int))), (12, (.int .i64 t12_7))] ⟨h1, h4, h5, rfl, rfl, h10, h11, h12⟩ ?_
      rintro s ⟨h1, h4, h5, h6, h7, h10, h11, h12⟩
      refine .nsq ?_
      refine .seq ?_
      refine run_reg ?_
      refine e_end ?_
      refine g_v1 (t := 1) (u := (.int .i64 set_2)) (.int .i64 set_2) h1 rfl rfl ?_
      refine g_v1 (t := 6) (u := (.int .i64 t12_7)) (.int .i64 t12_7) h6 rfl rfl ?_
      obtain ⟨q_12, E_q_12, h⟩ := bind_some h
      refine g_v (.int .i64 q_12) (ev_shr rfl rfl E_q_12) ?_
      refine g_v1 (t := 19) (u := (.int .i64 q_12)) (.int .i64 (iand .i64 q_12 1)) rfl rfl rfl ?_
      refine g_v1 (t := 20) (u := (.int .i64 (iand .i64 q_12 1))) (.bool ((iand .i64 q_12 1) == 1)) rfl rfl rfl ?_
      refine g_end ?_
      refine e_end ?_
      refine renew [(1, (.int .i64 set_2)), (4, (.int .i64 0)), (5, (.int .i64 out_6)), (7, (.int .i64 e_11)), (10, (Enc.enc (w_1.a : List Int))), (11, (.int .i64 (w_1.a.length : Int))), (12, (.int .i64 t12_7)), (21, (.bool ((iand .i64 q_12 1) == 1)))] ⟨h1, h4, h5, h7, h10, h11, h12, rfl⟩ ?_
      rintro s ⟨h1, h4, h5, h7, h10, h11, h12, h21⟩
      refine .nsq ?_
      refine run_cond (t := ((iand .i64 q_12 1) == 1)) h21 h (fun h => ?_) (fun h => ?_)
      · refine run_reg ?_
        refine e_end ?_
        refine g_v1 (t := 5) (u := (.int .i64 out_6)) (.int .i64 out_6) h5 rfl rfl ?_
        refine g_v1 (t := 7) (u := (.int .i64 e_11)) (.int .i64 e_11) h7 rfl rfl ?_
        refine g_v2 (t1 := 22) (t2 := 23) (u1 := (.int .i64 out_6)) (u2 := (.int .i64 e_11)) (.int .i64 (ior .i64 out_6 e_11)) rfl rfl rfl rfl ?_
        refine g_v1 (t := 24) (u := (.int .i64 (ior .i64 out_6 e_11))) (.int .i64 (ior .i64 out_6 e_11)) rfl rfl rfl ?_
        refine g_end ?_
        refine e_end ?_
        refine renew [(1, (.int .i64 set_2)), (4, (.int .i64 0)), (5, (.int .i64 (ior .i64 out_6 e_11))), (10, (Enc.enc (w_1.a : List Int))), (11, (.int .i64 (w_1.a.length : Int))), (12, (.int .i64 t12_7))] ⟨h1, h4, rfl, h10, h11, h12⟩ ?_
        rintro s ⟨h1, h4, h5, h10, h11, h12⟩
        exact t_f74_j1 H set_2 w_1 t12_7 (i_net_around_l1 F set_2 w_1 k) ih (ior .i64 out_6 e_11) _ ⟨h1, h4, h5, h10, h11, h12⟩ h
      · refine .skip ?_
        exact t_f74_j1 H set_2 w_1 t12_7 (i_net_around_l1 F set_2 w_1 k) ih out_6 _ ⟨h1, h4, h5, h10, h11, h12⟩ h
    · refine .exit ?_
      refine .esq ?_
      refine .elp ?_
      refine .ebk ?_
      refine .nsq ?_
      refine .seq ?_
      refine run_reg ?_
      refine e_end ?_
      refine g_v1 (t := 5) (u := (.int .i64 out_6)) (.int .i64 out_6) h5 rfl rfl ?_
      refine g_v1 (t := 26) (u := (.int .i64 out_6)) (.int .i64 out_6) rfl rfl rfl ?_
      refine g_end ?_
      refine e_end ?_
      refine renew [(4, (.int .i64 out_6))] rfl ?_
      rintro s h4
      refine .nsq ?_
      refine .ret ?_
      have hr := Option.some.inj h
      subst hr
      exact rrA (res_tmp h4) rfl
def i_net_around (F : Nat) (w_1 : (S1 (List Int))) (set_2 : Int) : Option Int :=
  i_net_around_l1 F set_2 w_1 F set_2 0
theorem t74 (H : H74 D σ F) (w_1 : (S1 (List Int))) (set_2 : Int) (s : Nat → V) (hs : Facts [(0, (.agg [(Enc.enc (w_1.a : List Int))])), (1, (.int .i64 set_2))] s) (h : i_net_around F w_1 set_2 = some r) : Run D σ (R74 r) (.run A74 []) s := by
  unfold i_net_around at h
  obtain ⟨h0, h1⟩ := hs
  refine .seq ?_
  refine run_reg ?_
  refine e_clr ?_
  refine e_end ?_
  refine g_box (.agg [(Enc.enc (w_1.a : List Int))]) (rd_of (keep_clear (s := s) (pk := [2]) h0 rfl (map_agg (maps_cons (Enc.map_enc _ (w_1.a : List Int)) maps_nil))) rfl) (gone_clear (s := s) (pk := [2]) (t := 2) rfl) rfl ?_
  refine g_v0 (.int .i64 0) rfl rfl ?_
  refine g_end ?_
  refine e_end ?_
  refine renew [(1, (.int .i64 set_2)), (2, (.ref (.bx 2) 0 [] (.agg [(Enc.enc (w_1.a : List Int))]))), (4, (.int .i64 0))] ⟨(keep_clear (s := s) (pk := [2]) h1 rfl rfl), rfl, rfl⟩ ?_
  rintro s ⟨h1, h2, h4⟩
  refine .nsq ?_
  refine .seq ?_
  refine run_reg ?_
  refine e_end ?_
  refine g_v1 (t := 1) (u := (.int .i64 set_2)) (.int .i64 set_2) h1 rfl rfl ?_
  refine g_v1 (t := 8) (u := (.int .i64 set_2)) (.int .i64 set_2) rfl rfl rfl ?_
  refine g_end ?_
  refine e_end ?_
  refine renew [(1, (.int .i64 set_2)), (2, (.ref (.bx 2) 0 [] (.agg [(Enc.enc (w_1.a : List Int))]))), (4, (.int .i64 0)), (5, (.int .i64 set_2))] ⟨h1, h2, h4, rfl⟩ ?_
  rintro s ⟨h1, h2, h4, h5⟩
  refine .nsq ?_
  refine .seq ?_
  refine .seq ?_
  refine run_reg ?_
  refine e_end ?_
  refine g_v1 (t := 2) (u := (.ref (.bx 2) 0 [] (.agg [(Enc.enc (w_1.a : List Int))]))) (.ref (.bx 2) 0 [0] (Enc.enc (w_1.a : List Int))) h2 rfl rfl ?_
  refine g_v1 (t := 9) (u := (.ref (.bx 2) 0 [0] (Enc.enc (w_1.a : List Int)))) (Enc.enc (w_1.a : List Int)) rfl rfl rfl ?_
  refine g_v (.int .i64 (w_1.a.length : Int)) (ev_len (xs := w_1.a) rfl) ?_
  refine g_v0 (.int .i64 0) rfl rfl ?_
  refine g_end ?_
  refine e_end ?_
  refine renew [(1, (.int .i64 set_2)), (4, (.int .i64 0)), (5, (.int .i64 set_2)), (10, (Enc.enc (w_1.a : List Int))), (11, (.int .i64 (w_1.a.length : Int))), (12, (.int .i64 0))] ⟨h1, h4, h5, rfl, rfl, rfl⟩ ?_
  rintro s ⟨h1, h4, h5, h10, h11, h12⟩
  refine .nsq ?_
  refine .block ?_
  refine .loop ?_
  exact t_f74_l1 H set_2 w_1 F set_2 0 _ ⟨h1, h4, h5, h10, h11, h12⟩ h
end
def e74 (F : Nat) : Ent := ⟨74, dn2 (i_net_around F) (fun (r : Int) => (Enc.enc (r : Int))), 0, false⟩
theorem o74 {D : Den} {σ : Sig} {F : Nat} (hF : Fits2 Try.prog D σ) (H : H74 D σ F) : (e74 F).Ok Try.prog := by
  refine ⟨fun args r h => ?_, ⟨Try.f74, Try.func74, rfl, rfl⟩⟩
  obtain ⟨x0, x1, y, rfl, hy, rfl⟩ := dn2_open h
  exact contract_run hF (by kernel_rfl) Try.func74 rfl c74 (show 2 ≤ Try.f74.ntmps by decide) (t74 H x0 x1 _ ⟨rfl, rfl⟩ hy)
/- (loop.example/g01109/impl.net).ball -/
def A48_2 : AC := (AC.cond (O.t 12) AC.skip (AC.exit 0))
def A48_5 : AC := (AC.cond (O.t 20) (AC.exit 0) AC.skip)
def A48_6 : AC := (AC.reg [] [(I.mk (some 21) none false (X.v (A.mov (O.t 8)))), (I.mk (some 7) none false (X.v (A.mov (O.t 21))))] [])
def A48_4 : AC := (AC.seq (AC.seq (AC.reg [] [(I.mk (some 18) none false (X.v (A.mov (O.t 8)))), (I.mk (some 19) none false (X.v (A.mov (O.t 7)))), (I.mk (some 20) none false (X.v (A.bin BinOp.eql (O.t 18) (O.t 19))))] []) A48_5) A48_6)
def A48_7 : AC := (AC.reg [] [(I.mk (some 13) none false (X.v (A.mov (O.t 2)))), (I.mk (some 14) none false (X.v (A.bin BinOp.sub (O.t 13) (O.k (V.int IntKind.i64 (Int.ofNat 1)))))), (I.mk (some 2) none false (X.v (A.mov (O.t 14))))] [])
def A48_3 : AC := (AC.seq (AC.block 1 (AC.seq (AC.reg [] [(I.mk (some 15) none false (X.v (A.load (Sh.ag [Sh.p]) (O.t 3)))), (I.mk (some 16) none false (X.v (A.mov (O.t 7)))), (I.mk (some 17) none false (X.call (O.k (V.fn 74 [] [])) [(O.t 15), (O.t 16)])), (I.mk (some 8) none false (X.v (A.mov (O.t 17))))] []) A48_4)) A48_7)
def A48_1 : AC := (AC.seq (AC.seq (AC.reg [] [(I.mk (some 11) none false (X.v (A.mov (O.t 2)))), (I.mk (some 12) none false (X.v (A.bin BinOp.gtr (O.t 11) (O.k (V.int IntKind.i64 (Int.ofNat 0))))))] []) A48_2) A48_3)
def A48_8 : AC := (AC.seq (AC.reg [] [(I.mk (some 22) none false (X.v (A.mov (O.t 7)))), (I.mk (some 6) none false (X.v (A.mov (O.t 22))))] []) AC.ret)
def A48_10 : AC := (AC.seq (AC.block 0 (AC.loop A48_1)) A48_8)
def A48_9 : AC := (AC.seq (AC.reg [] [(I.mk (some 9) none false (X.v (A.mov (O.t 1)))), (I.mk (some 10) none false (X.v (A.bin BinOp.shl (O.k (V.int IntKind.i64 (Int.ofNat 1))) (O.t 9)))), (I.mk (some 7) none false (X.v (A.mov (O.t 10))))] []) A48_10)
def A48 : AC := (AC.seq (AC.reg [.clr [3]] [(I.mk (some 3) none false (X.box (O.t 0))), (I.mk (some 6) none false (X.v (A.mov (O.k (V.int IntKind.i64 (Int.ofNat 0))))))] []) A48_9)
def an48 : List An := [{ id := 0, pre := [.clr [3]], ep := [] }]
theorem c48 : cC Try.prog Try.f48.ntmps an48 (Try.f48.body.getD .skip) = some A48 := by kernel_rfl
structure H48 (D : Den) (σ : Sig) (F : Nat) : Prop where
  c74 : ∀ x0 x1 r, i_net_around F x0 x1 = some r → D 74 [Enc.enc x0, Enc.enc x1] = some (Enc.enc (r : Int))
  g74 : σ 74 = some (0, false)
abbrev R48 (r : Int) : (Nat → V) → Prop := RR Try.prog [.tmp 6] 0 false (Enc.enc (r : Int))
section
variable {D : Den} {σ : Sig} {F : Nat} {r : Int}
def i_net_ball_l1 (F : Nat) (w_1 : (S1 (List Int)))  : Nat → Int → Int → Option Int
  | 0, _, _ => none
  | k + 1, r_6, ball_7 =>
    bif decide (r_6 > 0) then
      (i_net_around F w_1 ball_7).bind fun r_9 =>
      bif (r_9 == ball_7) then
        some ball_7
      else
        (i_net_ball_l1 F w_1 k) (w64 (r_6 - 1)) r_9
    else
      some ball_7
theorem t_f48_l1 (H : H48 D σ F) (w_1 : (S1 (List Int)))  : ∀ (k : Nat) (r_6 : Int) (ball_7 : Int) (s : Nat → V), Facts [(2, (.int .i64 r_6)), (3, (.ref (.bx 3) 0 [] (.agg [(Enc.enc (w_1.a : List Int))]))), (6, (.int .i64 0)), (7, (.int .i64 ball_7))] s → i_net_ball_l1 F w_1 k r_6 ball_7 = some r → Run D σ (R48 r) (.run A48_1 [.lp A48_1, .bk 0, .sq A48_8]) s := by
  intro k
  induction k with
  | zero => intro r_6 ball_7 s _ h; exact nomatch (h : (none : Option _) = some r)
  | succ k ih =>
    intro r_6 ball_7 s hs h
    rw [i_net_ball_l1] at h
    obtain ⟨h2, h3, h6, h7⟩ := hs
    refine .seq ?_
    refine .seq ?_
    refine run_reg ?_
    refine e_end ?_
    refine g_v1 (t := 2) (u := (.int .i64 r_6)) (.int .i64 r_6) h2 rfl rfl ?_
    refine g_v1 (t := 11) (u := (.int .i64 r_6)) (.bool (decide (r_6 > 0))) rfl rfl rfl ?_
    refine g_end ?_
    refine e_end ?_
    refine renew [(2, (.int .i64 r_6)), (3, (.ref (.bx 3) 0 [] (.agg [(Enc.enc (w_1.a : List Int))]))), (6, (.int .i64 0)), (7, (.int .i64 ball_7)), (12, (.bool (decide (r_6 > 0))))] ⟨h2, h3, h6, h7, rfl⟩ ?_
    rintro s ⟨h2, h3, h6, h7, h12⟩
    refine .nsq ?_
    refine run_cond (t := decide (r_6 > 0)) h12 h (fun h => ?_) (fun h => ?_)
    · refine .skip ?_
      refine .nsq ?_
      refine .seq ?_
      refine .block ?_
      refine .seq ?_
      refine run_reg ?_
      refine e_end ?_
      refine g_v1 (t := 3) (u := (.ref (.bx 3) 0 [] (.agg [(Enc.enc (w_1.a : List Int))]))) (.agg [(Enc.enc (w_1.a : List Int))]) h3 rfl rfl ?_
      refine g_v1 (t := 7) (u := (.int .i64 ball_7)) (.int .i64 ball_7) h7 rfl rfl ?_
      obtain ⟨r_9, E_r_9, h⟩ := bind_some h
      refine g_call (m := 0) (al := false) (r := (Enc.enc (r_9 : Int))) [Enc.enc (w_1 : (S1 (List Int))), Enc.enc (ball_7 : Int)] (ta_cons (v := (.agg [(Enc.enc (w_1.a : List Int))])) rfl rfl (Enc.erase_enc (w_1 : (S1 (List Int)))) (ta_cons (v := (.int .i64 ball_7)) rfl rfl rfl ta_nil)) (H.c74 _ _ _ E_r_9) H.g74 rfl rfl rfl rfl ?_
      refine g_v1 (t := 17) (u := (.int .i64 r_9)) (.int .i64 r_9) rfl rfl rfl ?_
      refine g_end ?_
      refine e_end ?_
      refine renew [(2, (.int .i64 r_6)), (3, (.ref (.bx 3) 0 [] (.agg [(Enc.enc (w_1.a : List Int))]))), (6, (.int .i64 0)), (7, (.int .i64 ball_7)), (8, (.int .i64 r_9))] ⟨h2, h3, h6, h7, rfl⟩ ?_
      rintro s ⟨h2, h3, h6, h7, h8⟩
      refine .nsq ?_
      refine .seq ?_
      refine .seq ?_
      refine run_reg ?_
      refine e_end ?_
      refine g_v1 (t := 8) (u := (.int .i64 r_9)) (.int .i64 r_9) h8 rfl rfl ?_
      refine g_v1 (t := 7) (u := (.int .i64 ball_7)) (.int .i64 ball_7) h7 rfl rfl ?_
      refine g_v2 (t1 := 18) (t2 := 19) (u1 := (.int .i64 r_9)) (u2 := (.int .i64 ball_7)) (.bool (r_9 == ball_7)) rfl rfl rfl rfl ?_
      refine g_end ?_
      refine e_end ?_
      refine renew [(2, (.int .i64 r_6)), (3, (.ref (.bx 3) 0 [] (.agg [(Enc.enc (w_1.a : List Int))]))), (6, (.int .i64 0)), (7, (.int .i64 ball_7)), (8, (.int .i64 r_9)), (20, (.bool (r_9 == ball_7)))] ⟨h2, h3, h6, h7, h8, rfl⟩ ?_
      rintro s ⟨h2, h3, h6, h7, h8, h20⟩
      refine .nsq ?_
      refine run_cond (t := (r_9 == ball_7)) h20 h (fun h => ?_) (fun h => ?_)
      · refine .exit ?_
        refine .esq ?_
        refine .ebn (by decide) ?_
        refine .esq ?_
        refine .elp ?_
        refine .ebk ?_
        refine .nsq ?_
        refine .seq ?_
        refine run_reg ?_
        refine e_end ?_
        refine g_v1 (t := 7) (u := (.int .i64 ball_7)) (.int .i64 ball_7) h7 rfl rfl ?_
        refine g_v1 (t := 22) (u := (.int .i64 ball_7)) (.int .i64 ball_7) rfl rfl rfl ?_
        refine g_end ?_
        refine e_end ?_
        refine renew [(6, (.int .i64 ball_7))] rfl ?_
        rintro s h6
        refine .nsq ?_
        refine .ret ?_
        have hr := Option.some.inj h
        subst hr
        exact rrA (res_tmp h6) rfl
      · refine .skip ?_
        refine .nsq ?_
        refine run_reg ?_
        refine e_end ?_
        refine g_v1 (t := 8) (u := (.int .i64 r_9)) (.int .i64 r_9) h8 rfl rfl ?_
        refine g_v1 (t := 21) (u := (.int .i64 r_9)) (.int .i64 r_9) rfl rfl rfl ?_
        refine g_end ?_
        refine e_end ?_
        refine renew [(2, (.int .i64 r_6)), (3, (.ref (.bx 3) 0 [] (.agg [(Enc.enc (w_1.a : List Int))]))), (6, (.int .i64 0)), (7, (.int .i64 r_9))] ⟨h2, h3, h6, rfl⟩ ?_
        rintro s ⟨h2, h3, h6, h7⟩
        refine .nbk ?_
        refine .nsq ?_
        refine run_reg ?_
        refine e_end ?_
        refine g_v1 (t := 2) (u := (.int .i64 r_6)) (.int .i64 r_6) h2 rfl rfl ?_
        refine g_v1 (t := 13) (u := (.int .i64 r_6)) (.int .i64 (w64 (r_6 - 1))) rfl rfl rfl ?_
        refine g_v1 (t := 14) (u := (.int .i64 (w64 (r_6 - 1)))) (.int .i64 (w64 (r_6 - 1))) rfl rfl rfl ?_
        refine g_end ?_
        refine e_end ?_
        refine renew [(2, (.int .i64 (w64 (r_6 - 1)))), (3, (.ref (.bx 3) 0 [] (.agg [(Enc.enc (w_1.a : List Int))]))), (6, (.int .i64 0)), (7, (.int .i64 r_9))] ⟨rfl, h3, h6, h7⟩ ?_
        rintro s ⟨h2, h3, h6, h7⟩
        refine .nlp ?_
        exact ih (w64 (r_6 - 1)) r_9 _ ⟨h2, h3, h6, h7⟩ h
    · refine .exit ?_
      refine .esq ?_
      refine .elp ?_
      refine .ebk ?_
      refine .nsq ?_
      refine .seq ?_
      refine run_reg ?_
      refine e_end ?_
      refine g_v1 (t := 7) (u := (.int .i64 ball_7)) (.int .i64 ball_7) h7 rfl rfl ?_
      refine g_v1 (t := 22) (u := (.int .i64 ball_7)) (.int .i64 ball_7) rfl rfl rfl ?_
      refine g_end ?_
      refine e_end ?_
      refine renew [(6, (.int .i64 ball_7))] rfl ?_
      rintro s h6
      refine .nsq ?_
      refine .ret ?_
      have hr := Option.some.inj h
      subst hr
      exact rrA (res_tmp h6) rfl
def i_net_ball (F : Nat) (w_1 : (S1 (List Int))) (x_2 : Int) (r_3 : Int) : Option Int :=
  (shlI .i64 1 x_2).bind fun q_4 =>
  i_net_ball_l1 F w_1 F r_3 q_4
theorem t48 (H : H48 D σ F) (w_1 : (S1 (List Int))) (x_2 : Int) (r_3 : Int) (s : Nat → V) (hs : Facts [(0, (.agg [(Enc.enc (w_1.a : List Int))])), (1, (.int .i64 x_2)), (2, (.int .i64 r_3))] s) (h : i_net_ball F w_1 x_2 r_3 = some r) : Run D σ (R48 r) (.run A48 []) s := by
  unfold i_net_ball at h
  obtain ⟨h0, h1, h2⟩ := hs
  refine .seq ?_
  refine run_reg ?_
  refine e_clr ?_
  refine e_end ?_
  refine g_box (.agg [(Enc.enc (w_1.a : List Int))]) (rd_of (keep_clear (s := s) (pk := [3]) h0 rfl (map_agg (maps_cons (Enc.map_enc _ (w_1.a : List Int)) maps_nil))) rfl) (gone_clear (s := s) (pk := [3]) (t := 3) rfl) rfl ?_
  refine g_v0 (.int .i64 0) rfl rfl ?_
  refine g_end ?_
  refine e_end ?_
  refine renew [(1, (.int .i64 x_2)), (2, (.int .i64 r_3)), (3, (.ref (.bx 3) 0 [] (.agg [(Enc.enc (w_1.a : List Int))]))), (6, (.int .i64 0))] ⟨(keep_clear (s := s) (pk := [3]) h1 rfl rfl), (keep_clear (s := s) (pk := [3]) h2 rfl rfl), rfl, rfl⟩ ?_
  rintro s ⟨h1, h2, h3, h6⟩
  refine .nsq ?_
  refine .seq ?_
  refine run_reg ?_
  refine e_end ?_
  refine g_v1 (t := 1) (u := (.int .i64 x_2)) (.int .i64 x_2) h1 rfl rfl ?_
  obtain ⟨q_4, E_q_4, h⟩ := bind_some h
  refine g_v (.int .i64 q_4) (ev_shl rfl rfl E_q_4) ?_
  refine g_v1 (t := 10) (u := (.int .i64 q_4)) (.int .i64 q_4) rfl rfl rfl ?_
  refine g_end ?_
  refine e_end ?_
  refine renew [(2, (.int .i64 r_3)), (3, (.ref (.bx 3) 0 [] (.agg [(Enc.enc (w_1.a : List Int))]))), (6, (.int .i64 0)), (7, (.int .i64 q_4))] ⟨h2, h3, h6, rfl⟩ ?_
  rintro s ⟨h2, h3, h6, h7⟩
  refine .nsq ?_
  refine .seq ?_
  refine .block ?_
  refine .loop ?_
  exact t_f48_l1 H w_1 F r_3 q_4 _ ⟨h2, h3, h6, h7⟩ h
end
def e48 (F : Nat) : Ent := ⟨48, dn3 (i_net_ball F) (fun (r : Int) => (Enc.enc (r : Int))), 0, false⟩
theorem o48 {D : Den} {σ : Sig} {F : Nat} (hF : Fits2 Try.prog D σ) (H : H48 D σ F) : (e48 F).Ok Try.prog := by
  refine ⟨fun args r h => ?_, ⟨Try.f48, Try.func48, rfl, rfl⟩⟩
  obtain ⟨x0, x1, x2, y, rfl, hy, rfl⟩ := dn3_open h
  exact contract_run hF (by kernel_rfl) Try.func48 rfl c48 (show 3 ≤ Try.f48.ntmps by decide) (t48 H x0 x1 x2 _ ⟨rfl, rfl, rfl⟩ hy)
/- math/bits.OnesCount64 -/
def A73_7 : AC := (AC.seq (AC.reg [] [(I.mk (some 32) none false (X.v (A.mov (O.t 0)))), (I.mk (some 33) none false (X.v (A.conv IntKind.i64 (O.t 32)))), (I.mk (some 34) none false (X.v (A.bin BinOp.and (O.t 33) (O.k (V.int IntKind.i64 (Int.ofNat 127)))))), (I.mk (some 2) none false (X.v (A.mov (O.t 34))))] []) AC.ret)
def A73_6 : AC := (AC.seq (AC.reg [] [(I.mk (some 28) none false (X.v (A.mov (O.t 0)))), (I.mk (some 29) none false (X.v (A.mov (O.t 0)))), (I.mk (some 30) none false (X.v (A.bin BinOp.shr (O.t 29) (O.k (V.int IntKind.u64 (Int.ofNat 32)))))), (I.mk (some 31) none false (X.v (A.bin BinOp.add (O.t 28) (O.t 30)))), (I.mk (some 0) none false (X.v (A.mov (O.t 31))))] []) A73_7)
def A73_5 : AC := (AC.seq (AC.reg [] [(I.mk (some 24) none false (X.v (A.mov (O.t 0)))), (I.mk (some 25) none false (X.v (A.mov (O.t 0)))), (I.mk (some 26) none false (X.v (A.bin BinOp.shr (O.t 25) (O.k (V.int IntKind.u64 (Int.ofNat 16)))))), (I.mk (some 27) none false (X.v (A.bin BinOp.add (O.t 24) (O.t 26)))), (I.mk (some 0) none false (X.v (A.mov (O.t 27))))] []) A73_6)
def A73_4 : AC := (AC.seq (AC.reg [] [(I.mk (some 20) none false (X.v (A.mov (O.t 0)))), (I.mk (some 21) none false (X.v (A.mov (O.t 0)))), (I.mk (some 22) none false (X.v (A.bin BinOp.shr (O.t 21) (O.k (V.int IntKind.u64 (Int.ofNat 8)))))), (I.mk (some 23) none false (X.v (A.bin BinOp.add (O.t 20) (O.t 22)))), (I.mk (some 0) none false (X.v (A.mov (O.t 23))))] []) A73_5)
def A73_3 : AC := (AC.seq (AC.reg [] [(I.mk (some 15) none false (X.v (A.mov (O.t 0)))), (I.mk (some 16) none false (X.v (A.bin BinOp.shr (O.t 15) (O.k (V.int IntKind.u64 (Int.ofNat 4)))))), (I.mk (some 17) none false (X.v (A.mov (O.t 0)))), (I.mk (some 18) none false (X.v (A.bin BinOp.add (O.t 16) (O.t 17)))), (I.mk (some 19) none false (X.v (A.bin BinOp.and (O.t 18) (O.k (V.int IntKind.u64 (Int.ofNat 1085102592571150095)))))), (I.mk (some 0) none false (X.v (A.mov (O.t 19))))] []) A73_4)
def A73_2 : AC := (AC.seq (AC.reg [] [(I.mk (some 9) none false (X.v (A.mov (O.t 0)))), (I.mk (some 10) none false (X.v (A.bin BinOp.shr (O.t 9) (O.k (V.int IntKind.u64 (Int.ofNat 2)))))), (I.mk (some 11) none false (X.v (A.bin BinOp.and (O.t 10) (O.k (V.int IntKind.u64 (Int.ofNat 3689348814741910323)))))), (I.mk (some 12) none false (X.v (A.mov (O.t 0)))), (I.mk (some 13) none false (X.v (A.bin BinOp.and (O.t 12) (O.k (V.int IntKind.u64 (Int.ofNat 3689348814741910323)))))), (I.mk (some 14) none false (X.v (A.bin BinOp.add (O.t 11) (O.t 13)))), (I.mk (some 0) none false (X.v (A.mov (O.t 14))))] []) A73_3)
def A73_1 : AC := (AC.seq (AC.reg [] [(I.mk (some 3) none false (X.v (A.mov (O.t 0)))), (I.mk (some 4) none false (X.v (A.bin BinOp.shr (O.t 3) (O.k (V.int IntKind.u64 (Int.ofNat 1)))))), (I.mk (some 5) none false (X.v (A.bin BinOp.and (O.t 4) (O.k (V.int IntKind.u64 (Int.ofNat 6148914691236517205)))))), (I.mk (some 6) none false (X.v (A.mov (O.t 0)))), (I.mk (some 7) none false (X.v (A.bin BinOp.and (O.t 6) (O.k (V.int IntKind.u64 (Int.ofNat 6148914691236517205)))))), (I.mk (some 8) none false (X.v (A.bin BinOp.add (O.t 5) (O.t 7)))), (I.mk (some 0) none false (X.v (A.mov (O.t 8))))] []) A73_2)
def A73 : AC := (AC.seq (AC.reg [] [(I.mk (some 2) none false (X.v (A.mov (O.k (V.int IntKind.i64 (Int.ofNat 0))))))] []) A73_1)
def an73 : List An := []
theorem c73 : cC Try.prog Try.f73.ntmps an73 (Try.f73.body.getD .skip) = some A73 := by kernel_rfl
structure H73 (D : Den) (σ : Sig) (F : Nat) : Prop where
  mk ::
abbrev R73 (r : Int) : (Nat → V) → Prop := RR Try.prog [.tmp 2] 0 false (Enc.enc (r : Int))
section
variable {D : Den} {σ : Sig} {F : Nat} {r : Int}
def bits_OnesCount64 (F : Nat) (x_1 : (Kd .u64)) : Option Int :=
  (shrI .u64 x_1.v 1).bind fun q_2 =>
  (shrI .u64 (IntKind.u64.wrap ((iand .u64 q_2 6148914691236517205) + (iand .u64 x_1.v 6148914691236517205))) 2).bind fun q_3 =>
  (shrI .u64 (IntKind.u64.wrap ((iand .u64 q_3 3689348814741910323) + (iand .u64 (IntKind.u64.wrap ((iand .u64 q_2 6148914691236517205) + (iand .u64 x_1.v 6148914691236517205))) 3689348814741910323))) 4).bind fun q_4 =>
  (shrI .u64 (iand .u64 (IntKind.u64.wrap (q_4 + (IntKind.u64.wrap ((iand .u64 q_3 3689348814741910323) + (iand .u64 (IntKind.u64.wrap ((iand .u64 q_2 6148914691236517205) + (iand .u64 x_1.v 6148914691236517205))) 3689348814741910323))))) 1085102592571150095) 8).bind fun q_5 =>
  (shrI .u64 (IntKind.u64.wrap ((iand .u64 (IntKind.u64.wrap (q_4 + (IntKind.u64.wrap ((iand .u64 q_3 3689348814741910323) + (iand .u64 (IntKind.u64.wrap ((iand .u64 q_2 6148914691236517205) + (iand .u64 x_1.v 6148914691236517205))) 3689348814741910323))))) 1085102592571150095) + q_5)) 16).bind fun q_6 =>
  (shrI .u64 (IntKind.u64.wrap ((IntKind.u64.wrap ((iand .u64 (IntKind.u64.wrap (q_4 + (IntKind.u64.wrap ((iand .u64 q_3 3689348814741910323) + (iand .u64 (IntKind.u64.wrap ((iand .u64 q_2 6148914691236517205) + (iand .u64 x_1.v 6148914691236517205))) 3689348814741910323))))) 1085102592571150095) + q_5)) + q_6)) 32).bind fun q_7 =>
  some (iand .i64 (w64 (IntKind.u64.wrap ((IntKind.u64.wrap ((IntKind.u64.wrap ((iand .u64 (IntKind.u64.wrap (q_4 + (IntKind.u64.wrap ((iand .u64 q_3 3689348814741910323) + (iand .u64 (IntKind.u64.wrap ((iand .u64 q_2 6148914691236517205) + (iand .u64 x_1.v 6148914691236517205))) 3689348814741910323))))) 1085102592571150095) + q_5)) + q_6)) + q_7))) 127)
theorem t73 (H : H73 D σ F) (x_1 : (Kd .u64)) (s : Nat → V) (hs : Facts [(0, (.int .u64 x_1.v))] s) (h : bits_OnesCount64 F x_1 = some r) : Run D σ (R73 r) (.run A73 []) s := by
  unfold bits_OnesCount64 at h
  have h0 := hs
  refine .seq ?_
  refine run_reg ?_
  refine e_end ?_
  refine g_v0 (.int .i64 0) rfl rfl ?_
  refine g_end ?_
  refine e_end ?_
  refine renew [(0, (.int .u64 x_1.v)), (2, (.int .i64 0))] ⟨h0, rfl⟩ ?_
  rintro s ⟨h0, h2⟩
  refine .nsq ?_
  refine .seq ?_
  refine run_reg ?_
  refine e_end ?_
  refine g_v1 (t := 0) (u := (.int .u64 x_1.v)) (.int .u64 x_1.v) h0 rfl rfl ?_
  obtain ⟨q_2, E_q_2, h⟩ := bind_some h
  refine g_v (.int .u64 q_2) (ev_shr rfl rfl E_q_2) ?_
  refine g_v1 (t := 4) (u := (.int .u64 q_2)) (.int .u64 (iand .u64 q_2 6148914691236517205)) rfl rfl rfl ?_
  refine g_v1 (t := 0) (u := (.int .u64 x_1.v)) (.int .u64 x_1.v) h0 rfl rfl ?_
  refine g_v1 (t := 6) (u := (.int .u64 x_1.v)) (.int .u64 (iand .u64 x_1.v 6148914691236517205)) rfl rfl rfl ?_
  refine g_v2 (t1 := 5) (t2 := 7) (u1 := (.int .u64 (iand .u64 q_2 6148914691236517205))) (u2 := (.int .u64 (iand .u64 x_1.v 6148914691236517205))) (.int .u64 (IntKind.u64.wrap ((iand .u64 q_2 6148914691236517205) + (iand .u64 x_1.v 6148914691236517205)))) rfl rfl rfl rfl ?_
  refine g_v1 (t := 8) (u := (.int .u64 (IntKind.u64.wrap ((iand .u64 q_2 6148914691236517205) + (iand .u64 x_1.v 6148914691236517205))))) (.int .u64 (IntKind.u64.wrap ((iand .u64 q_2 6148914691236517205) + (iand .u64 x_1.v 6148914691236517205)))) rfl rfl rfl ?_
  refine g_end ?_
  refine e_end ?_
  refine renew [(0, (.int .u64 (IntKind.u64.wrap ((iand .u64 q_2 6148914691236517205) + (iand .u64 x_1.v 6148914691236517205))))), (2, (.int .i64 0))] ⟨rfl, h2⟩ ?_
  rintro s ⟨h0, h2⟩
  refine .nsq ?_
  refine .seq ?_
  refine run_reg ?_
  refine e_end ?_
  refine g_v1 (t := 0) (u := (.int .u64 (IntKind.u64.wrap ((iand .u64 q_2 6148914691236517205) + (iand .u64 x_1.v 6148914691236517205))))) (.int .u64 (IntKind.u64.wrap ((iand .u64 q_2 6148914691236517205) + (iand .u64 x_1.v 6148914691236517205)))) h0 rfl rfl ?_
  obtain ⟨q_3, E_q_3, h⟩ := bind_some h
  refine g_v (.int .u64 q_3) (ev_shr rfl rfl E_q_3) ?_
  refine g_v1 (t := 10) (u := (.int .u64 q_3)) (.int .u64 (iand .u64 q_3 3689348814741910323)) rfl rfl rfl ?_
  refine g_v1 (t := 0) (u := (.int .u64 (IntKind.u64.wrap ((iand .u64 q_2 6148914691236517205) + (iand .u64 x_1.v 6148914691236517205))))) (.int .u64 (IntKind.u64.wrap ((iand .u64 q_2 6148914691236517205) + (iand .u64 x_1.v 6148914691236517205)))) h0 rfl rfl ?_
  refine g_v1 (t := 12) (u := (.int .u64 (IntKind.u64.wrap ((iand .u64 q_2 6148914691236517205) + (iand .u64 x_1.v 6148914691236517205))))) (.int .u64 (iand .u64 (IntKind.u64.wrap ((iand .u64 q_2 6148914691236517205) + (iand .u64 x_1.v 6148914691236517205))) 3689348814741910323)) rfl rfl rfl ?_
  refine g_v2 (t1 := 11) (t2 := 13) (u1 := (.int .u64 (iand .u64 q_3 3689348814741910323))) (u2 := (.int .u64 (iand .u64 (IntKind.u64.wrap ((iand .u64 q_2 6148914691236517205) + (iand .u64 x_1.v 6148914691236517205))) 3689348814741910323))) (.int .u64 (IntKind.u64.wrap ((iand .u64 q_3 3689348814741910323) + (iand .u64 (IntKind.u64.wrap ((iand .u64 q_2 6148914691236517205) + (iand .u64 x_1.v 6148914691236517205))) 3689348814741910323)))) rfl rfl rfl rfl ?_
  refine g_v1 (t := 14) (u := (.int .u64 (IntKind.u64.wrap ((iand .u64 q_3 3689348814741910323) + (iand .u64 (IntKind.u64.wrap ((iand .u64 q_2 6148914691236517205) + (iand .u64 x_1.v 6148914691236517205))) 3689348814741910323))))) (.int .u64 (IntKind.u64.wrap ((iand .u64 q_3 3689348814741910323) + (iand .u64 (IntKind.u64.wrap ((iand .u64 q_2 6148914691236517205) + (iand .u64 x_1.v 6148914691236517205))) 3689348814741910323)))) rfl rfl rfl ?_
  refine g_end ?_
  refine e_end ?_
  refine renew [(0, (.int .u64 (IntKind.u64.wrap ((iand .u64 q_3 3689348814741910323) + (iand .u64 (IntKind.u64.wrap ((iand .u64 q_2 6148914691236517205) + (iand .u64 x_1.v 6148914691236517205))) 3689348814741910323))))), (2, (.int .i64 0))] ⟨rfl, h2⟩ ?_
  rintro s ⟨h0, h2⟩
  refine .nsq ?_
  refine .seq ?_
  refine run_reg ?_
  refine e_end ?_
  refine g_v1 (t := 0) (u := (.int .u64 (IntKind.u64.wrap ((iand .u64 q_3 3689348814741910323) + (iand .u64 (IntKind.u64.wrap ((iand .u64 q_2 6148914691236517205) + (iand .u64 x_1.v 6148914691236517205))) 3689348814741910323))))) (.int .u64 (IntKind.u64.wrap ((iand .u64 q_3 3689348814741910323) + (iand .u64 (IntKind.u64.wrap ((iand .u64 q_2 6148914691236517205) + (iand .u64 x_1.v 6148914691236517205))) 3689348814741910323)))) h0 rfl rfl ?_
  obtain ⟨q_4, E_q_4, h⟩ := bind_some h
  refine g_v (.int .u64 q_4) (ev_shr rfl rfl E_q_4) ?_
  refine g_v1 (t := 0) (u := (.int .u64 (IntKind.u64.wrap ((iand .u64 q_3 3689348814741910323) + (iand .u64 (IntKind.u64.wrap ((iand .u64 q_2 6148914691236517205) + (iand .u64 x_1.v 6148914691236517205))) 3689348814741910323))))) (.int .u64 (IntKind.u64.wrap ((iand .u64 q_3 3689348814741910323) + (iand .u64 (IntKind.u64.wrap ((iand .u64 q_2 6148914691236517205) + (iand .u64 x_1.v 6148914691236517205))) 3689348814741910323)))) h0 rfl rfl ?_
  refine g_v2 (t1 := 16) (t2 := 17) (u1 := (.int .u64 q_4)) (u2 := (.int .u64 (IntKind.u64.wrap ((iand .u64 q_3 3689348814741910323) + (iand .u64 (IntKind.u64.wrap ((iand .u64 q_2 6148914691236517205) + (iand .u64 x_1.v 6148914691236517205))) 3689348814741910323))))) (.int .u64 (IntKind.u64.wrap (q_4 + (IntKind.u64.wrap ((iand .u64 q_3 3689348814741910323) + (iand .u64 (IntKind.u64.wrap ((iand .u64 q_2 6148914691236517205) + (iand .u64 x_1.v 6148914691236517205))) 3689348814741910323)))))) rfl rfl rfl rfl ?_
  refine g_v1 (t := 18) (u := (.int .u64 (IntKind.u64.wrap (q_4 + (IntKind.u64.wrap ((iand .u64 q_3 3689348814741910323) + (iand .u64 (IntKind.u64.wrap ((iand .u64 q_2 6148914691236517205) + (iand .u64 x_1.v 6148914691236517205))) 3689348814741910323))))))) (.int .u64 (iand .u64 (IntKind.u64.wrap (q_4 + (IntKind.u64.wrap ((iand .u64 q_3 3689348814741910323) + (iand .u64 (IntKind.u64.wrap ((iand .u64 q_2 6148914691236517205) + (iand .u64 x_1.v 6148914691236517205))) 3689348814741910323))))) 1085102592571150095)) rfl rfl rfl ?_
  refine g_v1 (t := 19) (u := (.int .u64 (iand .u64 (IntKind.u64.wrap (q_4 + (IntKind.u64.wrap ((iand .u64 q_3 3689348814741910323) + (iand .u64 (IntKind.u64.wrap ((iand .u64 q_2 6148914691236517205) + (iand .u64 x_1.v 6148914691236517205))) 3689348814741910323))))) 1085102592571150095))) (.int .u64 (iand .u64 (IntKind.u64.wrap (q_4 + (IntKind.u64.wrap ((iand .u64 q_3 3689348814741910323) + (iand .u64 (IntKind.u64.wrap ((iand .u64 q_2 6148914691236517205) + (iand .u64 x_1.v 6148914691236517205))) 3689348814741910323))))) 1085102592571150095)) rfl rfl rfl ?_
  refine g_end ?_
  refine e_end ?_
  refine renew [(0, (.int .u64 (iand .u64 (IntKind.u64.wrap (q_4 + (IntKind.u64.wrap ((iand .u64 q_3 3689348814741910323) + (iand .u64 (IntKind.u64.wrap ((iand .u64 q_2 6148914691236517205) + (iand .u64 x_1.v 6148914691236517205))) 3689348814741910323))))) 1085102592571150095))), (2, (.int .i64 0))] ⟨rfl, h2⟩ ?_
  rintro s ⟨h0, h2⟩
  refine .nsq ?_
  refine .seq ?_
  refine run_reg ?_
  refine e_end ?_
  refine g_v1 (t := 0) (u := (.int .u64 (iand .u64 (IntKind.u64.wrap (q_4 + (IntKind.u64.wrap ((iand .u64 q_3 3689348814741910323) + (iand .u64 (IntKind.u64.wrap ((iand .u64 q_2 6148914691236517205) + (iand .u64 x_1.v 6148914691236517205))) 3689348814741910323))))) 1085102592571150095))) (.int .u64 (iand .u64 (IntKind.u64.wrap (q_4 + (IntKind.u64.wrap ((iand .u64 q_3 3689348814741910323) + (iand .u64 (IntKind.u64.wrap ((iand .u64 q_2 6148914691236517205) + (iand .u64 x_1.v 6148914691236517205))) 3689348814741910323))))) 1085102592571150095)) h0 rfl rfl ?_
  refine g_v1 (t := 0) (u := (.int .u64 (iand .u64 (IntKind.u64.wrap (q_4 + (IntKind.u64.wrap ((iand .u64 q_3 3689348814741910323) + (iand .u64 (IntKind.u64.wrap ((iand .u64 q_2 6148914691236517205) + (iand .u64 x_1.v 6148914691236517205))) 3689348814741910323))))) 1085102592571150095))) (.int .u64 (iand .u64 (IntKind.u64.wrap (q_4 + (IntKind.u64.wrap ((iand .u64 q_3 3689348814741910323) + (iand .u64 (IntKind.u64.wrap ((iand .u64 q_2 6148914691236517205) + (iand .u64 x_1.v 6148914691236517205))) 3689348814741910323))))) 1085102592571150095)) h0 rfl rfl ?_
  obtain ⟨q_5, E_q_5, h⟩ := bind_some h
  refine g_v (.int .u64 q_5) (ev_shr rfl rfl E_q_5) ?_
  refine g_v2 (t1 := 20) (t2 := 22) (u1 := (.int .u64 (iand .u64 (IntKind.u64.wrap (q_4 + (IntKind.u64.wrap ((iand .u64 q_3 3689348814741910323) + (iand .u64 (IntKind.u64.wrap ((iand .u64 q_2 6148914691236517205) + (iand .u64 x_1.v 6148914691236517205))) 3689348814741910323))))) 1085102592571150095))) (u2 := (.int .u64 q_5)) (.int .u64 (IntKind.u64.wrap ((iand .u64 (IntKind.u64.wrap (q_4 + (IntKind.u64.wrap ((iand .u64 q_3 3689348814741910323) + (iand .u64 (IntKind.u64.wrap ((iand .u64 q_2 6148914691236517205) + (iand .u64 x_1.v 6148914691236517205))) 3689348814741910323))))) 1085102592571150095) + q_5))) rfl rfl rfl rfl ?_
  refine g_v1 (t := 23) (u := (.int .u64 (IntKind.u64.wrap ((iand .u64 (IntKind.u64.wrap (q_4 + (IntKind.u64.wrap ((iand .u64 q_3 3689348814741910323) + (iand .u64 (IntKind.u64.wrap ((iand .u64 q_2 6148914691236517205) + (iand .u64 x_1.v 6148914691236517205))) 3689348814741910323))))) 1085102592571150095) + q_5)))) (.int .u64 (IntKind.u64.wrap ((iand .u64 (IntKind.u64.wrap (q_4 + (IntKind.u64.wrap ((iand .u64 q_3 3689348814741910323) + (iand .u64 (IntKind.u64.wrap ((iand .u64 q_2 6148914691236517205) + (iand .u64 x_1.v 6148914691236517205))) 3689348814741910323))))) 1085102592571150095) + q_5))) rfl rfl rfl ?_
  refine g_end ?_
  refine e_end ?_
  refine renew [(0, (.int .u64 (IntKind.u64.wrap ((iand .u64 (IntKind.u64.wrap (q_4 + (IntKind.u64.wrap ((iand .u64 q_3 3689348814741910323) + (iand .u64 (IntKind.u64.wrap ((iand .u64 q_2 6148914691236517205) + (iand .u64 x_1.v 6148914691236517205))) 3689348814741910323))))) 1085102592571150095) + q_5)))), (2, (.int .i64 0))] ⟨rfl, h2⟩ ?_
  rintro s ⟨h0, h2⟩
  refine .nsq ?_
  refine .seq ?_
  refine run_reg ?_
  refine e_end ?_
  refine g_v1 (t := 0) (u := (.int .u64 (IntKind.u64.wrap ((iand .u64 (IntKind.u64.wrap (q_4 + (IntKind.u64.wrap ((iand .u64 q_3 3689348814741910323) + (iand .u64 (IntKind.u64.wrap ((iand .u64 q_2 6148914691236517205) + (iand .u64 x_1.v 6148914691236517205))) 3689348814741910323))))) 1085102592571150095) + q_5)))) (.int .u64 (IntKind.u64.wrap ((iand .u64 (IntKind.u64.wrap (q_4 + (IntKind.u64.wrap ((iand .u64 q_3 3689348814741910323) + (iand .u64 (IntKind.u64.wrap ((iand .u64 q_2 6148914691236517205) + (iand .u64 x_1.v 6148914691236517205))) 3689348814741910323))))) 1085102592571150095) + q_5))) h0 rfl rfl ?_
  refine g_v1 (t := 0) (u := (.int .u64 (IntKind.u64.wrap ((iand .u64 (IntKind.u64.wrap (q_4 + (IntKind.u64.wrap ((iand .u64 q_3 3689348814741910323) + (iand .u64 (IntKind.u64.wrap ((iand .u64 q_2 6148914691236517205) + (iand .u64 x_1.v 6148914691236517205))) 3689348814741910323))))) 1085102592571150095) + q_5)))) (.int .u64 (IntKind.u64.wrap ((iand .u64 (IntKind.u64.wrap (q_4 + (IntKind.u64.wrap ((iand .u64 q_3 3689348814741910323) + (iand .u64 (IntKind.u64.wrap ((iand .u64 q_2 6148914691236517205) + (iand .u64 x_1.v 6148914691236517205))) 3689348814741910323))))) 1085102592571150095) + q_5))) h0 rfl rfl ?_
  obtain ⟨q_6, E_q_6, h⟩ := bind_some h
  refine g_v (.int .u64 q_6) (ev_shr rfl rfl E_q_6) ?_
  refine g_v2 (t1 := 24) (t2 := 26) (u1 := (.int .u64 (IntKind.u64.wrap ((iand .u64 (IntKind.u64.wrap (q_4 + (IntKind.u64.wrap ((iand .u64 q_3 3689348814741910323) + (iand .u64 (IntKind.u64.wrap ((iand .u64 q_2 6148914691236517205) + (iand .u64 x_1.v 6148914691236517205))) 3689348814741910323))))) 1085102592571150095) + q_5)))) (u2 := (.int .u64 q_6)) (.int .u64 (IntKind.u64.wrap ((IntKind.u64.wrap ((iand .u64 (IntKind.u64.wrap (q_4 + (IntKind.u64.wrap ((iand .u64 q_3 3689348814741910323) + (iand .u64 (IntKind.u64.wrap ((iand .u64 q_2 6148914691236517205) + (iand .u64 x_1.v 6148914691236517205))) 3689348814741910323))))) 1085102592571150095) + q_5)) + q_6))) rfl rfl rfl rfl ?_
  refine g_v1 (t := 27) (u := (.int .u64 (IntKind.u64.wrap ((IntKind.u64.wrap ((iand .u64 (IntKind.u64.wrap (q_4 + (IntKind.u64.wrap ((iand .u64 q_3 3689348814741910323) + (iand .u64 (IntKind.u64.wrap ((iand .u64 q_2 6148914691236517205) + (iand .u64 x_1.v 6148914691236517205))) 3689348814741910323))))) 1085102592571150095) + q_5)) + q_6)))) (.int .u64 (IntKind.u64.wrap ((IntKind.u64.wrap ((iand .u64 (IntKind.u64.wrap (q_4 + (IntKind.u64.wrap ((iand .u64 q_3 3689348814741910323) + (iand .u64 (IntKind.u64.wrap ((iand .u64 q_2 6148914691236517205) + (iand .u64 x_1.v 6148914691236517205))) 3689348814741910323))))) 1085102592571150095) + q_5)) + q_6))) rfl rfl rfl ?_
  refine g_end ?_
  refine e_end ?_
  refine renew [(0, (.int .u64 (IntKind.u64.wrap ((IntKind.u64.wrap ((iand .u64 (IntKind.u64.wrap (q_4 + (IntKind.u64.wrap ((iand .u64 q_3 3689348814741910323) + (iand .u64 (IntKind.u64.wrap ((iand .u64 q_2 6148914691236517205) + (iand .u64 x_1.v 6148914691236517205))) 3689348814741910323))))) 1085102592571150095) + q_5)) + q_6)))), (2, (.int .i64 0))] ⟨rfl, h2⟩ ?_
  rintro s ⟨h0, h2⟩
  refine .nsq ?_
  refine .seq ?_
  refine run_reg ?_
  refine e_end ?_
  refine g_v1 (t := 0) (u := (.int .u64 (IntKind.u64.wrap ((IntKind.u64.wrap ((iand .u64 (IntKind.u64.wrap (q_4 + (IntKind.u64.wrap ((iand .u64 q_3 3689348814741910323) + (iand .u64 (IntKind.u64.wrap ((iand .u64 q_2 6148914691236517205) + (iand .u64 x_1.v 6148914691236517205))) 3689348814741910323))))) 1085102592571150095) + q_5)) + q_6)))) (.int .u64 (IntKind.u64.wrap ((IntKind.u64.wrap ((iand .u64 (IntKind.u64.wrap (q_4 + (IntKind.u64.wrap ((iand .u64 q_3 3689348814741910323) + (iand .u64 (IntKind.u64.wrap ((iand .u64 q_2 6148914691236517205) + (iand .u64 x_1.v 6148914691236517205))) 3689348814741910323))))) 1085102592571150095) + q_5)) + q_6))) h0 rfl rfl ?_
  refine g_v1 (t := 0) (u := (.int .u64 (IntKind.u64.wrap ((IntKind.u64.wrap ((iand .u64 (IntKind.u64.wrap (q_4 + (IntKind.u64.wrap ((iand .u64 q_3 3689348814741910323) + (iand .u64 (IntKind.u64.wrap ((iand .u64 q_2 6148914691236517205) + (iand .u64 x_1.v 6148914691236517205))) 3689348814741910323))))) 1085102592571150095) + q_5)) + q_6)))) (.int .u64 (IntKind.u64.wrap ((IntKind.u64.wrap ((iand .u64 (IntKind.u64.wrap (q_4 + (IntKind.u64.wrap ((iand .u64 q_3 3689348814741910323) + (iand .u64 (IntKind.u64.wrap ((iand .u64 q_2 6148914691236517205) + (iand .u64 x_1.v 6148914691236517205))) 3689348814741910323))))) 1085102592571150095) + q_5)) + q_6))) h0 rfl rfl ?_
  obtain ⟨q_7, E_q_7, h⟩ := bind_some h
  refine g_v (.int .u64 q_7) (ev_shr rfl rfl E_q_7) ?_
  refine g_v2 (t1 := 28) (t2 := 30) (u1 := (.int .u64 (IntKind.u64.wrap ((IntKind.u64.wrap ((iand .u64 (IntKind.u64.wrap (q_4 + (IntKind.u64.wrap ((iand .u64 q_3 3689348814741910323) + (iand .u64 (IntKind.u64.wrap ((iand .u64 q_2 6148914691236517205) + (iand .u64 x_1.v 6148914691236517205))) 3689348814741910323))))) 1085102592571150095) + q_5)) + q_6)))) (u2 := (.int .u64 q_7)) (.int .u64 (IntKind.u64.wrap ((IntKind.u64.wrap ((IntKind.u64.wrap ((iand .u64 (IntKind.u64.wrap (q_4 + (IntKind.u64.wrap ((iand .u64 q_3 3689348814741910323) + (iand .u64 (IntKind.u64.wrap ((iand .u64 q_2 6148914691236517205) + (iand .u64 x_1.v 6148914691236517205))) 3689348814741910323))))) 1085102592571150095) + q_5)) + q_6)) + q_7))) rfl rfl rfl rfl ?_
  refine g_v1 (t := 31) (u := (.int .u64 (IntKind.u64.wrap ((IntKind.u64.wrap ((IntKind.u64.wrap ((iand .u64 (IntKind.u64.wrap (q_4 + (IntKind.u64.wrap ((iand .u64 q_3 3689348814741910323) + (iand .u64 (IntKind.u64.wrap ((iand .u64 q_2 6148914691236517205) + (iand .u64 x_1.v 6148914691236517205))) 3689348814741910323))))) 1085102592571150095) + q_5)) + q_6)) + q_7)))) (.int .u64 (IntKind.u64.wrap ((IntKind.u64.wrap ((IntKind.u64.wrap ((iand .u64 (IntKind.u64.wrap (q_4 + (IntKind.u64.wrap ((iand .u64 q_3 3689348814741910323) + (iand .u64 (IntKind.u64.wrap ((iand .u64 q_2 6148914691236517205) + (iand .u64 x_1.v 6148914691236517205))) 3689348814741910323))))) 1085102592571150095) + q_5)) + q_6)) + q_7))) rfl rfl rfl ?_
  refine g_end ?_
  refine e_end ?_
  refine renew [(0, (.int .u64 (IntKind.u64.wrap ((IntKind.u64.wrap ((IntKind.u64.wrap ((iand .u64 (IntKind.u64.wrap (q_4 + (IntKind.u64.wrap ((iand .u64 q_3 3689348814741910323) + (iand .u64 (IntKind.u64.wrap ((iand .u64 q_2 6148914691236517205) + (iand .u64 x_1.v 6148914691236517205))) 3689348814741910323))))) 1085102592571150095) + q_5)) + q_6)) + q_7)))), (2, (.int .i64 0))] ⟨rfl, h2⟩ ?_
  rintro s ⟨h0, h2⟩
  refine .nsq ?_
  refine .seq ?_
  refine run_reg ?_
  refine e_end ?_
  refine g_v1 (t := 0) (u := (.int .u64 (IntKind.u64.wrap ((IntKind.u64.wrap ((IntKind.u64.wrap ((iand .u64 (IntKind.u64.wrap (q_4 + (IntKind.u64.wrap ((iand .u64 q_3 3689348814741910323) + (iand .u64 (IntKind.u64.wrap ((iand .u64 q_2 6148914691236517205) + (iand .u64 x_1.v 6148914691236517205))) 3689348814741910323))))) 1085102592571150095) + q_5)) + q_6)) + q_7)))) (.int .u64 (IntKind.u64.wrap ((IntKind.u64.wrap ((IntKind.u64.wrap ((iand .u64 (IntKind.u64.wrap (q_4 + (IntKind.u64.wrap ((iand .u64 q_3 3689348814741910323) + (iand .u64 (IntKind.u64.wrap ((iand .u64 q_2 6148914691236517205) + (iand .u64 x_1.v 6148914691236517205))) 3689348814741910323))))) 1085102592571150095) + q_5)) + q_6)) + q_7))) h0 rfl rfl ?_
  refine g_v1 (t := 32) (u := (.int .u64 (IntKind.u64.wrap ((IntKind.u64.wrap ((IntKind.u64.wrap ((iand .u64 (IntKind.u64.wrap (q_4 + (IntKind.u64.wrap ((iand .u64 q_3 3689348814741910323) + (iand .u64 (IntKind.u64.wrap ((iand .u64 q_2 6148914691236517205) + (iand .u64 x_1.v 6148914691236517205))) 3689348814741910323))))) 1085102592571150095) + q_5)) + q_6)) + q_7)))) (.int .i64 (w64 (IntKind.u64.wrap ((IntKind.u64.wrap ((IntKind.u64.wrap ((iand .u64 (IntKind.u64.wrap (q_4 + (IntKind.u64.wrap ((iand .u64 q_3 3689348814741910323) + (iand .u64 (IntKind.u64.wrap ((iand .u64 q_2 6148914691236517205) + (iand .u64 x_1.v 6148914691236517205))) 3689348814741910323))))) 1085102592571150095) + q_5)) + q_6)) + q_7)))) rfl rfl rfl ?_
  refine g_v1 (t := 33) (u := (.int .i64 (w64 (IntKind.u64.wrap ((IntKind.u64.wrap ((IntKind.u64.wrap ((iand .u64 (IntKind.u64.wrap (q_4 + (IntKind.u64.wrap ((iand .u64 q_3 3689348814741910323) + (iand .u64 (IntKind.u64.wrap ((iand .u64 q_2 6148914691236517205) + (iand .u64 x_1.v 6148914691236517205))) 3689348814741910323))))) 1085102592571150095) + q_5)) + q_6)) + q_7))))) (.int .i64 (iand .i64 (w64 (IntKind.u64.wrap ((IntKind.u64.wrap ((IntKind.u64.wrap ((iand .u64 (IntKind.u64.wrap (q_4 + (IntKind.u64.wrap ((iand .u64 q_3 3689348814741910323) + (iand .u64 (IntKind.u64.wrap ((iand .u64 q_2 6148914691236517205) + (iand .u64 x_1.v 6148914691236517205))) 3689348814741910323))))) 1085102592571150095) + q_5)) + q_6)) + q_7))) 127)) rfl rfl rfl ?_
  refine g_v1 (t := 34) (u := (.int .i64 (iand .i64 (w64 (IntKind.u64.wrap ((IntKind.u64.wrap ((IntKind.u64.wrap ((iand .u64 (IntKind.u64.wrap (q_4 + (IntKind.u64.wrap ((iand .u64 q_3 3689348814741910323) + (iand .u64 (IntKind.u64.wrap ((iand .u64 q_2 6148914691236517205) + (iand .u64 x_1.v 6148914691236517205))) 3689348814741910323))))) 1085102592571150095) + q_5)) + q_6)) + q_7))) 127))) (.int .i64 (iand .i64 (w64 (IntKind.u64.wrap ((IntKind.u64.wrap ((IntKind.u64.wrap ((iand .u64 (IntKind.u64.wrap (q_4 + (IntKind.u64.wrap ((iand .u64 q_3 3689348814741910323) + (iand .u64 (IntKind.u64.wrap ((iand .u64 q_2 6148914691236517205) + (iand .u64 x_1.v 6148914691236517205))) 3689348814741910323))))) 1085102592571150095) + q_5)) + q_6)) + q_7))) 127)) rfl rfl rfl ?_
  refine g_end ?_
  refine e_end ?_
  refine renew [(2, (.int .i64 (iand .i64 (w64 (IntKind.u64.wrap ((IntKind.u64.wrap ((IntKind.u64.wrap ((iand .u64 (IntKind.u64.wrap (q_4 + (IntKind.u64.wrap ((iand .u64 q_3 3689348814741910323) + (iand .u64 (IntKind.u64.wrap ((iand .u64 q_2 6148914691236517205) + (iand .u64 x_1.v 6148914691236517205))) 3689348814741910323))))) 1085102592571150095) + q_5)) + q_6)) + q_7))) 127)))] rfl ?_
  rintro s h2
  refine .nsq ?_
  refine .ret ?_
  have hr := Option.some.inj h
  subst hr
  exact rrA (res_tmp h2) rfl
end
def e73 (F : Nat) : Ent := ⟨73, dn1 (bits_OnesCount64 F) (fun (r : Int) => (Enc.enc (r : Int))), 0, false⟩
theorem o73 {D : Den} {σ : Sig} {F : Nat} (hF : Fits2 Try.prog D σ) (H : H73 D σ F) : (e73 F).Ok Try.prog := by
  refine ⟨fun args r h => ?_, ⟨Try.f73, Try.func73, rfl, rfl⟩⟩
  obtain ⟨x0, y, rfl, hy, rfl⟩ := dn1_open h
  exact contract_run hF (by kernel_rfl) Try.func73 rfl c73 (show 1 ≤ Try.f73.ntmps by decide) (t73 H x0 _ rfl hy)
/- math/bits.OnesCount -/
def A47_2 : AC := (AC.seq (AC.reg [] [(I.mk (some 6) none false (X.v (A.mov (O.t 0)))), (I.mk (some 7) none false (X.call (O.k (V.fn 73 [] [])) [(O.t 6)])), (I.mk (some 2) none false (X.v (A.mov (O.t 7))))] []) AC.ret)
def A47_1 : AC := (AC.seq (AC.cond (O.k (V.bool false)) (AC.seq (AC.reg [] [(I.mk (some 3) none false (X.v (A.mov (O.t 0)))), (I.mk (some 4) none false (X.v (A.conv IntKind.u32 (O.t 3)))), (I.mk (some 5) none false (X.call (O.k (V.fn 72 [] [])) [(O.t 4)])), (I.mk (some 2) none false (X.v (A.mov (O.t 5))))] []) AC.ret) AC.skip) A47_2)
def A47 : AC := (AC.seq (AC.reg [] [(I.mk (some 2) none false (X.v (A.mov (O.k (V.int IntKind.i64 (Int.ofNat 0))))))] []) A47_1)
def an47 : List An := []
theorem c47 : cC Try.prog Try.f47.ntmps an47 (Try.f47.body.getD .skip) = some A47 := by kernel_rfl
structure H47 (D : Den) (σ : Sig) (F : Nat) : Prop where
  c73 : ∀ x0 r, bits_OnesCount64 F x0 = some r → D 73 [Enc.enc x0] = some (Enc.enc (r : Int))
  g73 : σ 73 = some (0, false)
abbrev R47 (r : Int) : (Nat → V) → Prop := RR Try.prog [.tmp 2] 0 false (Enc.enc (r : Int))
section
variable {D : Den} {σ : Sig} {F : Nat} {r : Int}
def bits_OnesCount (F : Nat) (x_1 : (Kd .u64)) : Option Int :=
  (bits_OnesCount64 F (Kd.mk x_1.v : Kd .u64)).bind fun r_2 =>
  some r_2
theorem t47 (H : H47 D σ F) (x_1 : (Kd .u64)) (s : Nat → V) (hs : Facts [(0, (.int .u64 x_1.v))] s) (h : bits_OnesCount F x_1 = some r) : Run D σ (R47 r) (.run A47 []) s := by
  unfold bits_OnesCount at h
  have h0 := hs
  refine .seq ?_
  refine run_reg ?_
  refine e_end ?_
  refine g_v0 (.int .i64 0) rfl rfl ?_
  refine g_end ?_
  refine e_end ?_
  refine renew [(0, (.int .u64 x_1.v)), (2, (.int .i64 0))] ⟨h0, rfl⟩ ?_
  rintro s ⟨h0, h2⟩
  refine .nsq ?_
  refine .seq ?_
  refine run_condF rfl ?_
  refine .skip ?_
  refine .nsq ?_
  refine .seq ?_
  refine run_reg ?_
  refine e_end ?_
  refine g_v1 (t := 0) (u := (.int .u64 x_1.v)) (.int .u64 x_1.v) h0 rfl rfl ?_
  obtain ⟨r_2, E_r_2, h⟩ := bind_some h
  refine g_call (m := 0) (al := false) (r := (Enc.enc (r_2 : Int))) [Enc.enc ((Kd.mk x_1.v : Kd .u64) : (Kd .u64))] (ta_cons (v := (.int .u64 x_1.v)) rfl rfl rfl ta_nil) (H.c73 _ _ E_r_2) H.g73 rfl rfl rfl rfl ?_
  refine g_v1 (t := 7) (u := (.int .i64 r_2)) (.int .i64 r_2) rfl rfl rfl ?_
  refine g_end ?_
  refine e_end ?_
  refine renew [(2, (.int .i64 r_2))] rfl ?_
  rintro s h2
  refine .nsq ?_
  refine .ret ?_
  have hr := Option.some.inj h
  subst hr
  exact rrA (res_tmp h2) rfl
end
def e47 (F : Nat) : Ent := ⟨47, dn1 (bits_OnesCount F) (fun (r : Int) => (Enc.enc (r : Int))), 0, false⟩
theorem o47 {D : Den} {σ : Sig} {F : Nat} (hF : Fits2 Try.prog D σ) (H : H47 D σ F) : (e47 F).Ok Try.prog := by
  refine ⟨fun args r h => ?_, ⟨Try.f47, Try.func47, rfl, rfl⟩⟩
  obtain ⟨x0, y, rfl, hy, rfl⟩ := dn1_open h
  exact contract_run hF (by kernel_rfl) Try.func47 rfl c47 (show 1 ≤ Try.f47.ntmps by decide) (t47 H x0 _ rfl hy)
/- loop.example/g01109/impl.BandwidthBound -/
def A26_7 : AC := (AC.cond (O.t 22) AC.skip (AC.exit 2))
def A26_9 : AC := (AC.reg [] [(I.mk (some 32) none false (X.v (A.mov (O.t 5)))), (I.mk (some 33) none false (X.v (A.mov (O.t 8)))), (I.mk (some 34) none false (X.v (A.mov (O.t 7)))), (I.mk (some 35) none false (X.v (A.bin BinOp.mul (O.k (V.int IntKind.i64 (Int.ofNat 2))) (O.t 34)))), (I.mk (some 36) none false (X.v (A.bin BinOp.add (O.t 33) (O.t 35)))), (I.mk (some 37) none false (X.v (A.bin BinOp.sub (O.t 36) (O.k (V.int IntKind.i64 (Int.ofNat 1)))))), (I.mk (some 38) none false (X.v (A.mov (O.t 7)))), (I.mk (some 39) none false (X.v (A.bin BinOp.mul (O.k (V.int IntKind.i64 (Int.ofNat 2))) (O.t 38)))), (I.mk (some 40) none false (X.v (A.bin BinOp.quo (O.t 37) (O.t 39)))), (I.mk (some 41) none false (X.v (A.mx [(O.t 32), (O.t 40)]))), (I.mk (some 5) none false (X.v (A.mov (O.t 41))))] [])
def A26_10 : AC := (AC.reg [] [(I.mk (some 23) none false (X.v (A.mov (O.t 7)))), (I.mk (some 24) none false (X.v (A.bin BinOp.add (O.t 23) (O.k (V.int IntKind.i64 (Int.ofNat 1)))))), (I.mk (some 7) none false (X.v (A.mov (O.t 24))))] [])
def A26_8 : AC := (AC.seq (AC.block 3 (AC.seq (AC.reg [] [(I.mk (some 25) none false (X.v (A.load (Sh.ag [Sh.p]) (O.t 4)))), (I.mk (some 26) none false (X.v (A.mov (O.t 6)))), (I.mk (some 27) none false (X.v (A.mov (O.t 7)))), (I.mk (some 28) none false (X.call (O.k (V.fn 48 [] [])) [(O.t 25), (O.t 26), (O.t 27)])), (I.mk (some 29) none false (X.v (A.conv IntKind.u64 (O.t 28)))), (I.mk (some 30) none false (X.call (O.k (V.fn 47 [] [])) [(O.t 29)])), (I.mk (some 31) none false (X.v (A.bin BinOp.sub (O.t 30) (O.k (V.int IntKind.i64 (Int.ofNat 1)))))), (I.mk (some 8) none false (X.v (A.mov (O.t 31))))] []) A26_9)) A26_10)
def A26_6 : AC := (AC.seq (AC.seq (AC.reg [] [(I.mk (some 19) none false (X.v (A.mov (O.t 7)))), (I.mk (some 20) none false (X.v (A.fld (O.t 1) 0 0))), (I.mk (some 21) none false (X.v (A.load Sh.s (O.t 20)))), (I.mk (some 22) none false (X.v (A.bin BinOp.leq (O.t 19) (O.t 21))))] []) A26_7) A26_8)
def A26_5 : AC := (AC.block 2 (AC.loop A26_6))
def A26_4 : AC := (AC.seq (AC.reg [] [(I.mk (some 7) none false (X.v (A.mov (O.k (V.int IntKind.i64 (Int.ofNat 1))))))] []) A26_5)
def A26_11 : AC := (AC.reg [] [(I.mk (some 42) none false (X.v (A.bin BinOp.add (O.t 16) (O.k (V.int IntKind.i64 (Int.ofNat 1)))))), (I.mk (some 16) none false (X.v (A.mov (O.t 42))))] [])
def A26_3 : AC := (AC.seq (AC.block 1 (AC.seq (AC.reg [] [(I.mk (some 18) none false (X.v (A.mov (O.t 16)))), (I.mk (some 6) none false (X.v (A.mov (O.t 18))))] []) A26_4)) A26_11)
def A26_2 : AC := (AC.seq (AC.cond (O.t 17) AC.skip (AC.exit 0)) A26_3)
def A26_1 : AC := (AC.seq (AC.reg [] [(I.mk (some 17) none false (X.v (A.bin BinOp.lss (O.t 16) (O.t 15))))] []) A26_2)
def A26_12 : AC := (AC.seq (AC.reg [] [(I.mk (some 43) none false (X.v (A.mov (O.t 5)))), (I.mk (some 2) none false (X.v (A.mov (O.t 43)))), (I.mk (some 3) none false (X.v (A.mov (O.k (V.bool true)))))] []) AC.ret)
def A26_14 : AC := (AC.cond (O.t 11) (AC.seq (AC.reg [] [(I.mk (some 2) none false (X.v (A.mov (O.k (V.int IntKind.i64 (Int.ofNat 0)))))), (I.mk (some 3) none false (X.v (A.mov (O.k (V.bool false)))))] []) AC.ret) AC.skip)
def A26_18 : AC := (AC.block 0 (AC.loop A26_1))
def A26_17 : AC := (AC.seq (AC.seq (AC.reg [] [(I.mk (some 14) none false (X.v (A.fld (O.t 1) 0 0))), (I.mk (some 15) none false (X.v (A.load Sh.s (O.t 14)))), (I.mk (some 16) none false (X.v (A.mov (O.k (V.int IntKind.i64 (Int.ofNat 0))))))] []) A26_18) A26_12)
def A26_16 : AC := (AC.seq (AC.reg [] [(I.mk (some 5) none false (X.v (A.mov (O.k (V.int IntKind.i64 (Int.ofNat 0))))))] []) A26_17)
def A26_15 : AC := (AC.seq (AC.reg [.clr [4]] [(I.mk (some 12) none false (X.v (A.load (Sh.ag [Sh.s, Sh.p]) (O.t 1)))), (I.mk (some 13) none false (X.call (O.k (V.fn 42 [] [])) [(O.t 12)])), (I.mk (some 4) none false (X.alloc (V.agg [(V.sl Tok.nl Sh.s 0 [])]))), (I.mk none none false (X.store (Sh.ag [Sh.p]) (O.t 4) (O.t 13)))] []) A26_16)
def A26_13 : AC := (AC.seq (AC.seq (AC.reg [] [(I.mk (some 9) none false (X.v (A.load (Sh.ag [Sh.s, Sh.p]) (O.t 1)))), (I.mk (some 10) none false (X.call (O.k (V.fn 33 [] [])) [(O.t 9)])), (I.mk (some 11) none false (X.v (A.un UnOp.not (O.t 10))))] []) A26_14) A26_15)
def A26 : AC := (AC.seq (AC.reg [.clr [1]] [(I.mk (some 1) none false (X.box (O.t 0))), (I.mk (some 2) none false (X.v (A.mov (O.k (V.int IntKind.i64 (Int.ofNat 0)))))), (I.mk (some 3) none false (X.v (A.mov (O.k (V.bool false)))))] []) A26_13)
def an26 : List An := [{ id := 0, pre := [.clr [1]], ep := [] }, { id := 3, pre := [.clr [4]], ep := [] }]
theorem c26 : cC Try.prog Try.f26.ntmps an26 (Try.f26.body.getD .skip) = some A26 := by kernel_rfl
structure H26 (D : Den) (σ : Sig) (F : Nat) : Prop where
  c33 : ∀ x0 r, i_IsGraph F x0 = some r → D 33 [Enc.enc x0] = some (Enc.enc (r : Bool))
  g33 : σ 33 = some (0, false)
  c42 : ∀ x0 r, i_netOf F x0 = some r → D 42 [Enc.enc x0] = some (Enc.enc (r : (S1 (List Int))))
  g42 : σ 42 = some (0, true)
  c48 : ∀ x0 x1 x2 r, i_net_ball F x0 x1 x2 = some r → D 48 [Enc.enc x0, Enc.enc x1, Enc.enc x2] = some (Enc.enc (r : Int))
  g48 : σ 48 = some (0, false)
  c47 : ∀ x0 r, bits_OnesCount F x0 = some r → D 47 [Enc.enc x0] = some (Enc.enc (r : Int))
  g47 : σ 47 = some (0, false)
abbrev R26 (r : (Int × Bool)) : (Nat → V) → Prop := RR Try.prog [.tmp 2, .tmp 3] 0 false (.tup [Enc.enc (r.1 : Int), Enc.enc (r.2 : Bool)])
section
variable {D : Den} {σ : Sig} {F : Nat} {r : (Int × Bool)}
def i_BandwidthBound_l1 (F : Nat) (g_1 : (Int × (List (Int × Int)))) (r_3 : (S1 (List Int))) (t16_16 : Int) (c1 : Int → Int → Option (Int × Bool)) : Nat → Int → Int → Option (Int × Bool)
  | 0, _, _ => none
  | k + 1, bound_31, r_32 =>
    bif decide (r_32 ≤ g_1.1) then
      (i_net_ball F r_3 t16_16 r_32).bind fun r_36 =>
      (bits_OnesCount F (Kd.mk (IntKind.u64.wrap r_36) : Kd .u64)).bind fun r_37 =>
      (quoI .i64 (w64 ((w64 ((w64 (r_37 - 1)) + (w64 (2 * r_32)))) - 1)) (w64 (2 * r_32))).bind fun q_38 =>
      (i_BandwidthBound_l1 F g_1 r_3 t16_16 c1 k) (if q_38 > bound_31 then q_38 else bound_31) (w64 (r_32 + 1))
    else
      c1 bound_31 (w64 (t16_16 + 1))
theorem t_f26_l1 (H : H26 D σ F) (g_1 : (Int × (List (Int × Int)))) (r_3 : (S1 (List Int))) (t16_16 : Int) (c1 : Int → Int → Option (Int × Bool)) (Hc1 : ∀ (bound_15 : Int) (t16_16 : Int) (s : Nat → V), Facts [(1, (.ref (.bx 1) 0 [] (.agg [(.int .i64 g_1.1), (Enc.enc (g_1.2 : List (Int × Int)))]))), (2, (.int .i64 0)), (3, (.bool false)), (4, (.ref (.bx 4) 0 [] (.agg [(Enc.enc (r_3.a : List Int))]))), (5, (.int .i64 bound_15)), (15, (.int .i64 g_1.1)), (16, (.int .i64 t16_16))] s → c1 bound_15 t16_16 = some r → Run D σ (R26 r) (.run A26_1 [.lp A26_1, .bk 0, .sq A26_12]) s) : ∀ (k : Nat) (bound_31 : Int) (r_32 : Int) (s : Nat → V), Facts [(1, (.ref (.bx 1) 0 [] (.agg [(.int .i64 g_1.1), (Enc.enc (g_1.2 : List (Int × Int)))]))), (2, (.int .i64 0)), (3, (.bool false)), (4, (.ref (.bx 4) 0 [] (.agg [(Enc.enc (r_3.a : List Int))]))), (5, (.int .i64 bound_31)), (6, (.int .i64 t16_16)), (7, (.int .i64 r_32)), (15, (.int .i64 g_1.1)), (16, (.int .i64 t16_16))] s → i_BandwidthBound_l1 F g_1 r_3 t16_16 c1 k bound_31 r_32 = some r → Run D σ (R26 r) (.run A26_6 [.lp A26_6, .bk 2, .bk 1, .sq A26_11, .lp A26_1, .bk 0, .sq A26_12]) s := by
  intro k
  induction k with
  | zero => intro bound_31 r_32 s _ h; exact nomatch (h : (none : Option _) = some r)
  | succ k ih =>
    intro bound_31 r_32 s hs h
    rw [i_BandwidthBound_l1] at h
    obtain ⟨h1, h2, h3, h4, h5, h6, h7, h15, h16⟩ := hs
    refine .seq ?_
    refine .seq ?_
    refine run_reg ?_
    refine e_end ?_
    refine g_v1 (t := 7) (u := (.int .i64 r_32)) (.int .i64 r_32) h7 rfl rfl ?_
    refine g_v1 (t := 1) (u := (.ref (.bx 1) 0 [] (.agg [(.int .i64 g_1.1), (Enc.enc (g_1.2 : List (Int × Int)))]))) (.ref (.bx 1) 0 [0] (.int .i64 g_1.1)) h1 rfl rfl ?_
    refine g_v1 (t := 20) (u := (.ref (.bx 1) 0 [0] (.int .i64 g_1.1))) (.int .i64 g_1.1) rfl rfl rfl ?_
    refine g_v2 (t1 := 19) (t2 := 21) (u1 := (.int .i64 r_32)) (u2 := (.int .i64 g_1.1)) (.bool (decide (r_32 ≤ g_1.1))) rfl rfl rfl rfl ?_
    refine g_end ?_
    refine e_end ?_
    refine renew [(1, (.ref (.bx 1) 0 [] (.agg [(.int .i64 g_1.1), (Enc.enc (g_1.2 : List (Int × Int)))]))), (2, (.int .i64 0)), (3, (.bool false)), (4, (.ref (.bx 4) 0 [] (.agg [(Enc.enc (r_3.a : List Int))]))), (5, (.int .i64 bound_31)), (6, (.int .i64 t16_16)), (7, (.int .i64 r_32)), (15, (.int .i64 g_1.1)), (16, (.int .i64 t16_16)), (22, (.bool (decide (r_32 ≤ g_1.1))))] ⟨h1, h2, h3, h4, h5, h6, h7, h15, h16, rfl⟩ ?_
    rintro s ⟨h1, h2, h3, h4, h5, h6, h7, h15, h16, h22⟩
    refine .nsq ?_
    refine run_cond (t := decide (r_32 ≤ g_1.1)) h22 h (fun h => ?_) (fun h => ?_)
    · refine .skip ?_
      refine .nsq ?_
      refine .seq ?_
      refine .block ?_
      refine .seq ?_
      refine run_reg ?_
      refine e_end ?_
      refine g_v1 (t := 4) (u := (.ref (.bx 4) 0 [] (.agg [(Enc.enc (r_3.a : List Int))]))) (.agg [(Enc.enc (r_3.a : List Int))]) h4 rfl rfl ?_
      refine g_v1 (t := 6) (u := (.int .i64 t16_16)) (.int .i64 t16_16) h6 rfl rfl ?_
      refine g_v1 (t := 7) (u := (.int .i64 r_32)) (.int .i64 r_32) h7 rfl rfl ?_
      obtain ⟨r_36, E_r_36, h⟩ := bind_some h
      refine g_call (m := 0) (al := false) (r := (Enc.enc (r_36 : Int))) [Enc.enc (r_3 : (S1 (List Int))), Enc.enc (t16_16 : Int), Enc.enc (r_32 : Int)] (ta_cons (v := (.agg [(Enc.enc (r_3.a : List Int))])) rfl rfl (Enc.erase_enc (r_3 : (S1 (List Int)))) (ta_cons (v := (.int .i64 t16_16)) rfl rfl rfl (ta_cons (v := (.int .i64 r_32)) rfl rfl rfl ta_nil))) (H.c48 _ _ _ _ E_r_36) H.g48 rfl rfl rfl rfl ?_
      refine g_v1 (t := 28) (u := (.int .i64 r_36)) (.int .u64 (IntKind.u64.wrap r_36)) rfl rfl rfl ?_
      obtain ⟨r_37, E_r_37, h⟩ := bind_some h
      refine g_call (m := 0) (al := false) (r := (Enc.enc (r_37 : Int))) [Enc.enc ((Kd.mk (IntKind.u64.wrap r_36) : Kd .u64) : (Kd .u64))] (ta_cons (v := (.int .u64 (IntKind.u64.wrap r_36))) rfl rfl rfl ta_nil) (H.c47 _ _ E_r_37) H.g47 rfl rfl rfl rfl ?_
      refine g_v1 (t := 30) (u := (.int .i64 r_37)) (.int .i64 (w64 (r_37 - 1))) rfl rfl rfl ?_
      refine g_v1 (t := 31) (u := (.int .i64 (w64 (r_37 - 1)))) (.int .i64 (w64 (r_37 - 1))) rfl rfl rfl ?_
      refine g_end ?_
      refine e_end ?_
      refine renew [(1, (.ref (.bx 1) 0 [] (.agg [(.int .i64 g_1.1), (Enc.enc (g_1.2 : List (Int × Int)))]))), (2, (.int .i64 0)), (3, (.bool false)), (4, (.ref (.bx 4) 0 [] (.agg [(Enc.enc (r_3.a : List Int))]))), (5, (.int .i64 bound_31)), (6, (.int .i64 t16_16)), (7, (.int .i64 r_32)), (8, (.int .i64 (w64 (r_37 - 1)))), (15, (.int .i64 g_1.1)), (16, (.int .i64 t16_16))] ⟨h1, h2, h3, h4, h5, h6, h7, rfl, h15, h16⟩ ?_
      rintro s ⟨h1, h2, h3, h4, h5, h6, h7, h8, h15, h16⟩
      refine .nsq ?_
      refine run_reg ?_
      refine e_end ?_
      refine g_v1 (t := 5) (u := (.int .i64 bound_31)) (.int .i64 bound_31) h5 rfl rfl ?_
      refine g_v1 (t := 8) (u := (.int .i64 (w64 (r_37 - 1)))) (.int .i64 (w64 (r_37 - 1))) h8 rfl rfl ?_
      refine g_v1 (t := 7) (u := (.int .i64 r_32)) (.int .i64 r_32) h7 rfl rfl ?_
      refine g_v1 (t := 34) (u := (.int .i64 r_32)) (.int .i64 (w64 (2 * r_32))) rfl rfl rfl ?_
      refine g_v2 (t1 := 33) (t2 := 35) (u1 := (.int .i64 (w64 (r_37 - 1)))) (u2 := (.int .i64 (w64 (2 * r_32)))) (.int .i64 (w64 ((w64 (r_37 - 1)) + (w64 (2 * r_32))))) rfl rfl rfl rfl ?_
      refine g_v1 (t := 36) (u := (.int .i64 (w64 ((w64 (r_37 - 1)) + (w64 (2 * r_32)))))) (.int .i64 (w64 ((w64 ((w64 (r_37 - 1)) + (w64 (2 * r_32)))) - 1))) rfl rfl rfl ?_
      refine g_v1 (t := 7) (u := (.int .i64 r_32)) (.int .i64 r_32) h7 rfl rfl ?_
      refine g_v1 (t := 38) (u := (.int .i64 r_32)) (.int .i64 (w64 (2 * r_32))) rfl rfl rfl ?_
      obtain ⟨q_38, E_q_38, h⟩ := bind_some h
      refine g_v (.int .i64 q_38) (ev_quo rfl rfl E_q_38) ?_
      refine g_v2 (t1 := 32) (t2 := 40) (u1 := (.int .i64 bound_31)) (u2 := (.int .i64 q_38)) (.int .i64 (if q_38 > bound_31 then q_38 else bound_31)) rfl rfl rfl rfl ?_
      refine g_v1 (t := 41) (u := (.int .i64 (if q_38 > bound_31 then q_38 else bound_31))) (.int .i64 (if q_38 > bound_31 then q_38 else bound_31)) rfl rfl rfl ?_
      refine g_end ?_
      refine e_end ?_
      refine renew [(1, (.ref (.bx 1) 0 [] (.agg [(.int .i64 g_1.1), (Enc.enc (g_1.2 : List (Int × Int)))]))), (2, (.int .i64 0)), (3, (.bool false)), (4, (.ref (.bx 4) 0 [] (.agg [(Enc.enc (r_3.a : List Int))]))), (5, (.int .i64 (if q_38 > bound_31 then q_38 else bound_31))), (6, (.int .i64 t16_16)), (7, (.int .i64 r_32)), (15, (.int .i64 g_1.1)), (16, (.int .i64 t16_16))] ⟨h1, h2, h3, h4, rfl, h6, h7, h15, h16⟩ ?_
      rintro s ⟨h1, h2, h3, h4, h5, h6, h7, h15, h16⟩
      refine .nbk ?_
      refine .nsq ?_
      refine run_reg ?_
      refine e_end ?_
      refine g_v1 (t := 7) (u := (.int .i64 r_32)) (.int .i64 r_32) h7 rfl rfl ?_
      refine g_v1 (t := 23) (u := (.int .i64 r_32)) (.int .i64 (w64 (r_32 + 1))) rfl rfl rfl ?_
      refine g_v1 (t := 24) (u := (.int .i64 (w64 (r_32 + 1)))) (.int .i64 (w64 (r_32 + 1))) rfl rfl rfl ?_
      refine g_end ?_
      refine e_end ?_
      refine renew [(1, (.ref (.bx 1) 0 [] (.agg [(.int .i64 g_1.1), (Enc.enc (g_1.2 : List (Int × Int)))]))), (2, (.int .i64 0)), (3, (.bool false)), (4, (.ref (.bx 4) 0 [] (.agg [(Enc.enc (r_3.a : List Int))]))), (5, (.int .i64 (if q_38 > bound_31 then q_38 else bound_31))), (6, (.int .i64 t16_16)), (7, (.int .i64 (w64 (r_32 + 1)))), (15, (.int .i64 g_1.1)), (16, (.int .i64 t16_16))] ⟨h1, h2, h3, h4, h5, h6, rfl, h15, h16⟩ ?_
      rintro s ⟨h1, h2, h3, h4, h5, h6, h7, h15, h16⟩
      refine .nlp ?_
      exact ih (if q_38 > bound_31 then q_38 else bound_31) (w64 (r_32 + 1)) _ ⟨h1, h2, h3, h4, h5, h6, h7, h15, h16⟩ h
    · refine .exit ?_
      refine .esq ?_
      refine .elp ?_
      refine .ebk ?_
      refine .nbk ?_
      refine .nsq ?_
      refine run_reg ?_
      refine e_end ?_
      refine g_v1 (t := 16) (u := (.int .i64 t16_16)) (.int .i64 (w64 (t16_16 + 1))) h16 rfl rfl ?_
      refine g_v1 (t := 42) (u := (.int .i64 (w64 (t16_16 + 1)))) (.int .i64 (w64 (t16_16 + 1))) rfl rfl rfl ?_
      refine g_end ?_
      refine e_end ?_
      refine renew [(1, (.ref (.bx 1) 0 [] (.agg [(.int .i64 g_1.1), (Enc.enc (g_1.2 : List (Int × Int)))]))), (2, (.int .i64 0)), (3, (.bool false)), (4, (.ref (.bx 4) 0 [] (.agg [(Enc.enc (r_3.a : List Int))]))), (5, (.int .i64 bound_31)), (15, (.int .i64 g_1.1)), (16, (.int .i64 (w64 (t16_16 + 1))))] ⟨h1, h2, h3, h4, h5, h15, rfl⟩ ?_
      rintro s ⟨h1, h2, h3, h4, h5, h15, h16⟩
      refine .nlp ?_
      exact Hc1 bound_31 (w64 (t16_16 + 1)) _ ⟨h1, h2, h3, h4, h5, h15, h16⟩ h
def i_BandwidthBound_l2 (F : Nat) (g_1 : (Int × (List (Int × Int)))) (r_3 : (S1 (List Int)))  : Nat → Int → Int → Option (Int × Bool)
  | 0, _, _ => none
  | k + 1, bound_15, t16_16 =>
    bif decide (t16_16 < g_1.1) then
      i_BandwidthBound_l1 F g_1 r_3 t16_16 (i_BandwidthBound_l2 F g_1 r_3 k) F bound_15 1
    else
      some (bound_15, true)
theorem t_f26_l2 (H : H26 D σ F) (g_1 : (Int × (List (Int × Int)))) (r_3 : (S1 (List Int)))  : ∀ (k : Nat) (bound_15 : Int) (t16_16 : Int) (s : Nat → V), Facts [(1, (.ref (.bx 1) 0 [] (.agg [(.int .i64 g_1.1), (Enc.enc (g_1.2 : List (Int × Int)))]))), (2, (.int .i64 0)), (3, (.bool false)), (4, (.ref (.bx 4) 0 [] (.agg [(Enc.enc (r_3.a : List Int))]))), (5, (.int .i64 bound_15)), (15, (.int .i64 g_1.1)), (16, (.int .i64 t16_16))] s → i_BandwidthBound_l2 F g_1 r_3 k bound_15 t16_16 = some r → Run D σ (R26 r) (.run A26_1 [.lp A26_1, .bk 0, .sq A26_12]) s := by
  intro k
  induction k with
  | zero => intro bound_15 t16_16 s _ h; exact nomatch (h : (none : Option _) = some r)
  | succ k ih =>
    intro bound_15 t16_16 s hs h
    rw [i_BandwidthBound_l2] at h
    obtain ⟨h1, h2, h3, h4, h5, h15, h16⟩ := hs
    refine .seq ?_
    refine run_reg ?_
    refine e_end ?_
    refine g_v2 (t1 := 16) (t2 := 15) (u1 := (.int .i64 t16_16)) (u2 := (.int .i64 g_1.1)) (.bool (decide (t16_16 < g_1.1))) h16 h15 rfl rfl ?_
    refine g_end ?_
    refine e_end ?_
    refine renew [(1, (.ref (.bx 1) 0 [] (.agg [(.int .i64 g_1.1), (Enc.enc (g_1.2 : List (Int × Int)))]))), (2, (.int .i64 0)), (3, (.bool false)), (4, (.ref (.bx 4) 0 [] (.agg [(Enc.enc (r_3.a : List Int))]))), (5, (.int .i64 bound_15)), (15, (.int .i64 g_1.1)), (16, (.int .i64 t16_16)), (17, (.bool (decide (t16_16 < g_1.1))))] ⟨h1, h2, h3, h4, h5, h15, h16, rfl⟩ ?_
    rintro s ⟨h1, h2, h3, h4, h5, h15, h16, h17⟩
    refine .nsq ?_
    refine .seq ?_
    refine run_cond (t := decide (t16_16 < g_1.1)) h17 h (fun h => ?_) (fun h => ?_)
    · refine .skip ?_
      refine .nsq ?_
      refine .seq ?_
      refine .block ?_
      refine .seq ?_
      refine run_reg ?_
      refine e_end ?_
      refine g_v1 (t := 16) (u := (.int .i64 t16_16)) (.int .i64 t16_16) h16 rfl rfl ?_
      refine g_v1 (t := 18) (u := (.int .i64 t16_16)) (.int .i64 t16_16) rfl rfl rfl ?_
      refine g_end ?_
      refine e_end ?_
      refine renew [(1, (.ref (.bx 1) 0 [] (.agg [(.int .i64 g_1.1), (Enc.enc (g_1.2 : List (Int × Int)))]))), (2, (.int .i64 0)), (3, (.bool false)), (4, (.ref (.bx 4) 0 [] (.agg [(Enc.enc (r_3.a : List Int))]))), (5, (.int .i64 bound_15)), (6, (.int .i64 t16_16)), (15, (.int .i64 g_1.1)), (16, (.int .i64 t16_16))] ⟨h1, h2, h3, h4, h5, rfl, h15, h16⟩ ?_
      rintro s ⟨h1, h2, h3, h4, h5, h6, h15, h16⟩
      refine .nsq ?_
      refine .seq ?_
      refine run_reg ?_
      refine e_end ?_
      refine g_v0 (.int .i64 1) rfl rfl ?_
      refine g_end ?_
      refine e_end ?_
      refine renew [(1, (.ref (.bx 1) 0 [] (.agg [(.int .i64 g_1.1), (Enc.enc (g_1.2 : List (Int × Int)))]))), (2, (.int .i64 0)), (3, (.bool false)), (4, (.ref (.bx 4) 0 [] (.agg [(Enc.enc (r_3.a : List Int))]))), (5, (.int .i64 bound_15)), (6, (.int .i64 t16_16)), (7, (.int .i64 1)), (15, (.int .i64 g_1.1)), (16, (.int .i64 t16_16))] ⟨h1, h2, h3, h4, h5, h6, rfl, h15, h16⟩ ?_
      rintro s ⟨h1, h2, h3, h4, h5, h6, h7, h15, h16⟩
      refine .nsq ?_
      refine .block ?_
      refine .loop ?_
      exact t_f26_l1 H g_1 r_3 t16_16 (i_BandwidthBound_l2 F g_1 r_3 k) ih F bound_15 1 _ ⟨h1, h2, h3, h4, h5, h6, h7, h15, h16⟩ h
    · refine .exit ?_
      refine .esq ?_
      refine .elp ?_
      refine .ebk ?_
      refine .nsq ?_
      refine .seq ?_
      refine run_reg ?_
      refine e_end ?_
      refine g_v1 (t := 5) (u := (.int .i64 bound_15)) (.int .i64 bound_15) h5 rfl rfl ?_
      refine g_v1 (t := 43) (u := (.int .i64 bound_15)) (.int .i64 bound_15) rfl rfl rfl ?_
      refine g_v0 (.bool true) rfl rfl ?_
      refine g_end ?_
      refine e_end ?_
      refine renew [(2, (.int .i64 bound_15)), (3, (.bool true))] ⟨rfl, rfl⟩ ?_
      rintro s ⟨h2, h3⟩
      refine .nsq ?_
      refine .ret ?_
      have hr := Option.some.inj h
      subst hr
      exact rrB (res_tmp h2) (res_tmp h3) rfl
def i_BandwidthBound (F : Nat) (g_1 : (Int × (List (Int × Int)))) : Option (Int × Bool) :=
  (i_IsGraph F g_1).bind fun r_2 =>
  bif (!r_2) then
    some (0, false)
  else
    (i_netOf F g_1).bind fun r_3 =>
    i_BandwidthBound_l2 F g_1 r_3 F 0 0
theorem t26 (H : H26 D σ F) (g_1 : (Int × (List (Int × Int)))) (s : Nat → V) (hs : Facts [(0, (.agg [(.int .i64 g_1.1), (Enc.enc (g_1.2 : List (Int × Int)))]))] s) (h : i_BandwidthBound F g_1 = some r) : Run D σ (R26 r) (.run A26 []) s := by
  unfold i_BandwidthBound at h
  have h0 := hs
  refine .seq ?_
  refine run_reg ?_
  refine e_clr ?_
  refine e_end ?_
  refine g_box (.agg [(.int .i64 g_1.1), (Enc.enc (g_1.2 : List (Int × Int)))]) (rd_of (keep_clear (s := s) (pk := [1]) h0 rfl (map_agg (maps_cons rfl (maps_cons (Enc.map_enc _ (g_1.2 : List (Int × Int))) maps_nil)))) rfl) (gone_clear (s := s) (pk := [1]) (t := 1) rfl) rfl ?_
  refine g_v0 (.int .i64 0) rfl rfl ?_
  refine g_v0 (.bool false) rfl rfl ?_
  refine g_end ?_
  refine e_end ?_
  refine renew [(1, (.ref (.bx 1) 0 [] (.agg [(.int .i64 g_1.1), (Enc.enc (g_1.2 : List (Int × Int)))]))), (2, (.int .i64 0)), (3, (.bool false))] ⟨rfl, rfl, rfl⟩ ?_
  rintro s ⟨h1, h2, h3⟩
  refine .nsq ?_
  refine .seq ?_
  refine .seq ?_
  refine run_reg ?_
  refine e_end ?_
  refine g_v1 (t := 1) (u := (.ref (.bx 1) 0 [] (.agg [(.int .i64 g_1.1), (Enc.enc (g_1.2 : List (Int × Int)))]))) (.agg [(.int .i64 g_1.1), (Enc.enc (g_1.2 : List (Int × Int)))]) h1 rfl rfl ?_
  obtain ⟨r_2, E_r_2, h⟩ := bind_some h
  refine g_call (m := 0) (al := false) (r := (Enc.enc (r_2 : Bool))) [Enc.enc (g_1 : (Int × (List (Int × Int))))] (ta_cons (v := (.agg [(.int .i64 g_1.1), (Enc.enc (g_1.2 : List (Int × Int)))])) rfl rfl (Enc.erase_enc (g_1 : (Int × (List (Int × Int))))) ta_nil) (H.c33 _ _ E_r_2) H.g33 rfl rfl rfl rfl ?_
  refine g_v1 (t := 10) (u := (.bool r_2)) (.bool (!r_2)) rfl rfl rfl ?_
  refine g_end ?_
  refine e_end ?_
  refine renew [(1, (.ref (.bx 1) 0 [] (.agg [(.int .i64 g_1.1), (Enc.enc (g_1.2 : List (Int × Int)))]))), (2, (.int .i64 0)), (3, (.bool false)), (11, (.bool (!r_2)))] ⟨h1, h2, h3, rfl⟩ ?_
  rintro s ⟨h1, h2, h3, h11⟩
  refine .nsq ?_
  refine run_cond (t := (!r_2)) h11 h (fun h => ?_) (fun h => ?_)
  · refine .seq ?_
    refine run_reg ?_
    refine e_end ?_
    refine g_v0 (.int .i64 0) rfl rfl ?_
    refine g_v0 (.bool false) rfl rfl ?_
    refine g_end ?_
    refine e_end ?_
    refine renew [(1, (.ref (.bx 1) 0 [] (.agg [(.int .i64 g_1.1), (Enc.enc (g_1.2 : List (Int × Int)))]))), (2, (.int .i64 0)), (3, (.bool false))] ⟨h1, rfl, rfl⟩ ?_
    rintro s ⟨h1, h2, h3⟩
    refine .nsq ?_
    refine .ret ?_
    have hr := Option.some.inj h
    subst hr
    exact rrB (res_tmp h2) (res_tmp h3) rfl
  · refine .skip ?_
    refine .nsq ?_
    refine .seq ?_
    refine run_reg ?_
    refine e_clr ?_
    refine e_end ?_
    refine g_v1 (t := 1) (u := (.ref (.bx 1) 0 [] (.agg [(.int .i64 g_1.1), (Enc.enc (g_1.2 : List (Int × Int)))]))) (.agg [(.int .i64 g_1.1), (Enc.enc (g_1.2 : List (Int × Int)))]) (keep_clear (s := s) (pk := [4]) h1 rfl (map_bx rfl (map_agg (maps_cons rfl (maps_cons (Enc.map_enc _ (g_1.2 : List (Int × Int))) maps_nil))))) rfl rfl ?_
    obtain ⟨r_3, E_r_3, h⟩ := bind_some h
    refine g_call (m := 0) (al := true) (r := (Enc.enc (r_3 : (S1 (List Int))))) [Enc.enc (g_1 : (Int × (List (Int × Int))))] (ta_cons (v := (.agg [(.int .i64 g_1.1), (Enc.enc (g_1.2 : List (Int × Int)))])) rfl rfl (Enc.erase_enc (g_1 : (Int × (List (Int × Int))))) ta_nil) (H.c42 _ _ E_r_3) H.g42 (hal_of (ht_cons (v := (.agg [(.int .i64 g_1.1), (Enc.enc (g_1.2 : List (Int × Int)))])) rfl rfl rfl ht_nil)) rfl rfl rfl ?_
    refine g_alloc (gone_clear (s := s) (pk := [4]) (t := 4) rfl) ?_
    refine g_store (.agg [(Enc.enc (r_3.a : List Int))]) (rd_of rfl rfl) (rd_of rfl rfl) (by refine ⟨by decide, by decide, rfl, rfl, rfl, ?_⟩; first | rfl | simp [V.toks, V.tokss, Enc.toks_enc]) ?_
    refine g_end ?_
    refine e_end ?_
    refine renew [(1, (.ref (.bx 1) 0 [] (.agg [(.int .i64 g_1.1), (Enc.enc (g_1.2 : List (Int × Int)))]))), (2, (.int .i64 0)), (3, (.bool false)), (4, (.ref (.bx 4) 0 [] (.agg [(Enc.enc (r_3.a : List Int))])))] ⟨(keep_mut (keep_clear (s := s) (pk := [4]) h1 rfl (map_bx rfl (map_agg (maps_cons rfl (maps_cons (Enc.map_enc _ (g_1.2 : List (Int × Int))) maps_nil))))) (mut_ref_ne rfl rfl (mut_agg (muts_cons rfl (muts_cons (Enc.mut_enc _ _ _ _ (g_1.2 : List (Int × Int))) rfl))))), (keep_mut (keep_clear (s := s) (pk := [4]) h2 rfl rfl) rfl), (keep_mut (keep_clear (s := s) (pk := [4]) h3 rfl rfl) rfl), (keep_mut rfl rfl)⟩ ?_
    rintro s ⟨h1, h2, h3, h4⟩
    refine .nsq ?_
    refine .seq ?_
    refine run_reg ?_
    refine e_end ?_
    refine g_v0 (.int .i64 0) rfl rfl ?_
    refine g_end ?_
    refine e_end ?_
    refine renew [(1, (.ref (.bx 1) 0 [] (.agg [(.int .i64 g_1.1), (Enc.enc (g_1.2 : List (Int × Int)))]))), (2, (.int .i64 0)), (3, (.bool false)), (4, (.ref (.bx 4) 0 [] (.agg [(Enc.enc (r_3.a : List Int))]))), (5, (.int .i64 0))] ⟨h1, h2, h3, h4, rfl⟩ ?_
    rintro s ⟨h1, h2, h3, h4, h5⟩
    refine .nsq ?_
    refine .seq ?_
    refine .seq ?_
    refine run_reg ?_
    refine e_end ?_
    refine g_v1 (t := 1) (u := (.ref (.bx 1) 0 [] (.agg [(.int .i64 g_1.1), (Enc.enc (g_1.2 : List (Int × Int)))]))) (.ref (.bx 1) 0 [0] (.int .i64 g_1.1)) h1 rfl rfl ?_
    refine g_v1 (t := 14) (u := (.ref (.bx 1) 0 [0] (.int .i64 g_1.1))) (.int .i64 g_1.1) rfl rfl rfl ?_
    refine g_v0 (.int .i64 0) rfl rfl ?_
    refine g_end ?_
    refine e_end ?_
    refine renew [(1, (.ref (.bx 1) 0 [] (.agg [(.int .i64 g_1.1), (Enc.enc (g_1.2 : List (Int × Int)))]))), (2, (.int .i64 0)), (3, (.bool false)), (4, (.ref (.bx 4) 0 [] (.agg [(Enc.enc (r_3.a : List Int))]))), (5, (.int .i64 0)), (15, (.int .i64 g_1.1)), (16, (.int .i64 0))] ⟨h1, h2, h3, h4, h5, rfl, rfl⟩ ?_
    rintro s ⟨h1, h2, h3, h4, h5, h15, h16⟩
    refine .nsq ?_
    refine .block ?_
    refine .loop ?_
    exact t_f26_l2 H g_1 r_3 F 0 0 _ ⟨h1, h2, h3, h4, h5, h15, h16⟩ h
end
def e26 (F : Nat) : Ent := ⟨26, dn1 (i_BandwidthBound F) (fun (r : (Int × Bool)) => (.tup [Enc.enc (r.1 : Int), Enc.enc (r.2 : Bool)])), 0, false⟩
theorem o26 {D : Den} {σ : Sig} {F : Nat} (hF : Fits2 Try.prog D σ) (H : H26 D σ F) : (e26 F).Ok Try.prog := by
  refine ⟨fun args r h => ?_, ⟨Try.f26, Try.func26, rfl, rfl⟩⟩
  obtain ⟨x0, y, rfl, hy, rfl⟩ := dn1_open h
  exact contract_run hF (by kernel_rfl) Try.func26 rfl c26 (show 1 ≤ Try.f26.ntmps by decide) (t26 H x0 _ rfl hy)
/- loop.example/g01109/laws.eqIntA2 -/
def A64_2 : AC := (AC.cond (O.t 7) AC.skip (AC.exit 0))
def A64_4 : AC := (AC.cond (O.t 16) (AC.seq (AC.reg [] [(I.mk (some 4) none false (X.v (A.mov (O.k (V.bool false)))))] []) AC.ret) AC.skip)
def A64_5 : AC := (AC.reg [] [(I.mk (some 8) none false (X.v (A.mov (O.t 5)))), (I.mk (some 9) none false (X.v (A.bin BinOp.add (O.t 8) (O.k (V.int IntKind.i64 (Int.ofNat 1)))))), (I.mk (some 5) none false (X.v (A.mov (O.t 9))))] [])
def A64_3 : AC := (AC.seq (AC.block 1 (AC.seq (AC.reg [] [(I.mk (some 10) none false (X.v (A.mov (O.t 5)))), (I.mk (some 11) none false (X.v (A.idxA (O.t 2) (O.t 10) 2 1))), (I.mk (some 12) none false (X.v (A.load Sh.s (O.t 11)))), (I.mk (some 13) none false (X.v (A.mov (O.t 5)))), (I.mk (some 14) none false (X.v (A.idxA (O.t 3) (O.t 13) 2 1))), (I.mk (some 15) none false (X.v (A.load Sh.s (O.t 14)))), (I.mk (some 16) none false (X.v (A.bin BinOp.neq (O.t 12) (O.t 15))))] []) A64_4)) A64_5)
def A64_1 : AC := (AC.seq (AC.seq (AC.reg [] [(I.mk (some 6) none false (X.v (A.mov (O.t 5)))), (I.mk (some 7) none false (X.v (A.bin BinOp.lss (O.t 6) (O.k (V.int IntKind.i64 (Int.ofNat 2))))))] []) A64_2) A64_3)
def A64_6 : AC := (AC.seq (AC.reg [] [(I.mk (some 4) none false (X.v (A.mov (O.k (V.bool true)))))] []) AC.ret)
def A64_8 : AC := (AC.block 0 (AC.loop A64_1))
def A64_7 : AC := (AC.seq (AC.seq (AC.reg [] [(I.mk (some 5) none false (X.v (A.mov (O.k (V.int IntKind.i64 (Int.ofNat 0))))))] []) A64_8) A64_6)
def A64 : AC := (AC.seq (AC.reg [.clr [2, 3]] [(I.mk (some 2) none false (X.box (O.t 0))), (I.mk (some 3) none false (X.box (O.t 1))), (I.mk (some 4) none false (X.v (A.mov (O.k (V.bool false)))))] []) A64_7)
def an64 : List An := [{ id := 0, pre := [.clr [2, 3]], ep := [] }]
theorem c64 : cC Try.prog Try.f64.ntmps an64 (Try.f64.body.getD .skip) = some A64 := by kernel_rfl
structure H64 (D : Den) (σ : Sig) (F : Nat) : Prop where
  mk ::
abbrev R64 (r : Bool) : (Nat → V) → Prop := RR Try.prog [.tmp 4] 0 false (Enc.enc (r : Bool))
section
variable {D : Den} {σ : Sig} {F : Nat} {r : Bool}
def w_eqIntA2_l1 (F : Nat) (a_1 : (Int × Int)) (b_2 : (Int × Int))  : Nat → Int → Option Bool
  | 0, _ => none
  | k + 1, i_3 =>
    bif decide (i_3 < 2) then
      (idx [a_1.1, a_1.2] i_3).bind fun e_6 =>
      (idx [b_2.1, b_2.2] i_3).bind fun e_7 =>
      bif (e_6 != e_7) then
        some false
      else
        (w_eqIntA2_l1 F a_1 b_2 k) (w64 (i_3 + 1))
    else
      some true
theorem t_f64_l1 (H : H64 D σ F) (a_1 : (Int × Int)) (b_2 : (Int × Int))  : ∀ (k : Nat) (i_3 : Int) (s : Nat → V), Facts [(2, (.ref (.bx 2) 0 [] (.agg [(.int .i64 a_1.1), (.int .i64 a_1.2)]))), (3, (.ref (.bx 3) 0 [] (.agg [(.int .i64 b_2.1), (.int .i64 b_2.2)]))), (4, (.bool false)), (5, (.int .i64 i_3))] s → w_eqIntA2_l1 F a_1 b_2 k i_3 = some r → Run D σ (R64 r) (.run A64_1 [.lp A64_1, .bk 0, .sq A64_6]) s := by
  intro k
  induction k with
  | zero => intro i_3 s _ h; exact nomatch (h : (none : Option _) = some r)
  | succ k ih =>
    intro i_3 s hs h
    rw [w_eqIntA2_l1] at h
    obtain ⟨h2, h3, h4, h5⟩ := hs
    refine .seq ?_
    refine .seq ?_
    refine run_reg ?_
    refine e_end ?_
    refine g_v1 (t := 5) (u := (.int .i64 i_3)) (.int .i64 i_3) h5 rfl rfl ?_
    refine g_v1 (t := 6) (u := (.int .i64 i_3)) (.bool (decide (i_3 < 2))) rfl rfl rfl ?_
    refine g_end ?_
    refine e_end ?_
    refine renew [(2, (.ref (.bx 2) 0 [] (.agg [(.int .i64 a_1.1), (.int .i64 a_1.2)]))), (3, (.ref (.bx 3) 0 [] (.agg [(.int .i64 b_2.1), (.int .i64 b_2.2)]))), (4, (.bool false)), (5, (.int .i64 i_3)), (7, (.bool (decide (i_3 < 2))))] ⟨h2, h3, h4, h5, rfl⟩ ?_
    rintro s ⟨h2, h3, h4, h5, h7⟩
    refine .nsq ?_
    refine run_cond (t := decide (i_3 < 2)) h7 h (fun h => ?_) (fun h => ?_)
    · refine .skip ?_
      refine .nsq ?_
      refine .seq ?_
      refine .block ?_
      refine .seq ?_
      refine run_reg ?_
      refine e_end ?_
      refine g_v1 (t := 5) (u := (.int .i64 i_3)) (.int .i64 i_3) h5 rfl rfl ?_
      obtain ⟨e_6, E_e_6, h⟩ := bind_some h
      refine g_v (.ref (.bx 2) 0 [i_3.toNat] (.int .i64 e_6)) (ev_idxA (xs := [a_1.1, a_1.2]) (a := e_6) (n := i_3) (q := []) h2 rfl E_e_6 rfl rfl rfl) ?_
      refine g_v1 (t := 11) (u := (.ref (.bx 2) 0 [i_3.toNat] (.int .i64 e_6))) (.int .i64 e_6) rfl rfl rfl ?_
      refine g_v1 (t := 5) (u := (.int .i64 i_3)) (.int .i64 i_3) h5 rfl rfl ?_
      obtain ⟨e_7, E_e_7, h⟩ := bind_some h
      refine g_v (.ref (.bx 3) 0 [i_3.toNat] (.int .i64 e_7)) (ev_idxA (xs := [b_2.1, b_2.2]) (a := e_7) (n := i_3) (q := []) h3 rfl E_e_7 rfl rfl rfl) ?_
      refine g_v1 (t := 14) (u := (.ref (.bx 3) 0 [i_3.toNat] (.int .i64 e_7))) (.int .i64 e_7) rfl rfl rfl ?_
      refine g_v2 (t1 := 12) (t2 := 15) (u1 := (.int .i64 e_6)) (u2 := (.int .i64 e_7)) (.bool (e_6 != e_7)) rfl rfl rfl rfl ?_
      refine g_end ?_
      refine e_end ?_
      refine renew [(2, (.ref (.bx 2) 0 [] (.agg [(.int .i64 a_1.1), (.int .i64 a_1.2)]))), (3, (.ref (.bx 3) 0 [] (.agg [(.int .i64 b_2.1), (.int .i64 b_2.2)]))), (4, (.bool false)), (5, (.int .i64 i_3)), (16, (.bool (e_6 != e_7)))] ⟨h2, h3, h4, h5, rfl⟩ ?_
      rintro s ⟨h2, h3, h4, h5, h16⟩
      refine .nsq ?_
      refine run_cond (t := (e_6 != e_7)) h16 h (fun h => ?_) (fun h => ?_)
      · refine .seq ?_
        refine run_reg ?_
        refine e_end ?_
        refine g_v0 (.bool false) rfl rfl ?_
        refine g_end ?_
        refine e_end ?_
        refine renew [(2, (.ref (.bx 2) 0 [] (.agg [(.int .i64 a_1.1), (.int .i64 a_1.2)]))), (3, (.ref (.bx 3) 0 [] (.agg [(.int .i64 b_2.1), (.int .i64 b_2.2)]))), (4, (.bool false)), (5, (.int .i64 i_3))] ⟨h2, h3, rfl, h5⟩ ?_
        rintro s ⟨h2, h3, h4, h5⟩
        refine .nsq ?_
        refine .ret ?_
        have hr := Option.some.inj h
        subst hr
        exact rrA (res_tmp h4) rfl
      · refine .skip ?_
        refine .nbk ?_
        refine .nsq ?_
        refine run_reg ?_
        refine e_end ?_
        refine g_v1 (t := 5) (u := (.int .i64 i_3)) (.int .i64 i_3) h5 rfl rfl ?_
        refine g_v1 (t := 8) (u := (.int .i64 i_3)) (.int .i64 (w64 (i_3 + 1))) rfl rfl rfl ?_
        refine g_v1 (t := 9) (u := (.int .i64 (w64 (i_3 + 1)))) (.int .i64 (w64 (i_3 + 1))) rfl rfl rfl ?_
        refine g_end ?_
        refine e_end ?_
        refine renew [(2, (.ref (.bx 2) 0 [] (.agg [(.int .i64 a_1.1), (.int .i64 a_1.2)]))), (3, (.ref (.bx 3) 0 [] (.agg [(.int .i64 b_2.1), (.int .i64 b_2.2)]))), (4, (.bool false)), (5, (.int .i64 (w64 (i_3 + 1))))] ⟨h2, h3, h4, rfl⟩ ?_
        rintro s ⟨h2, h3, h4, h5⟩
        refine .nlp ?_
        exact ih (w64 (i_3 + 1)) _ ⟨h2, h3, h4, h5⟩ h
    · refine .exit ?_
      refine .esq ?_
      refine .elp ?_
      refine .ebk ?_
      refine .nsq ?_
      refine .seq ?_
      refine run_reg ?_
      refine e_end ?_
      refine g_v0 (.bool true) rfl rfl ?_
      refine g_end ?_
      refine e_end ?_
      refine renew [(4, (.bool true))] rfl ?_
      rintro s h4
      refine .nsq ?_
      refine .ret ?_
      have hr := Option.some.inj h
      subst hr
      exact rrA (res_tmp h4) rfl
def w_eqIntA2 (F : Nat) (a_1 : (Int × Int)) (b_2 : (Int × Int)) : Option Bool :=
  w_eqIntA2_l1 F a_1 b_2 F 0
theorem t64 (H : H64 D σ F) (a_1 : (Int × Int)) (b_2 : (Int × Int)) (s : Nat → V) (hs : Facts [(0, (.agg [(.int .i64 a_1.1), (.int .i64 a_1.2)])), (1, (.agg [(.int .i64 b_2.1), (.int .i64 b_2.2)]))] s) (h : w_eqIntA2 F a_1 b_2 = some r) : Run D σ (R64 r) (.run A64 []) s := by
  unfold w_eqIntA2 at h
  obtain ⟨h0, h1⟩ := hs
  refine .seq ?_
  refine run_reg ?_
  refine e_clr ?_
  refine e_end ?_
  refine g_box (.agg [(.int .i64 a_1.1), (.int .i64 a_1.2)]) (rd_of (keep_clear (s := s) (pk := [2, 3]) h0 rfl (map_agg (maps_cons rfl (maps_cons rfl maps_nil)))) rfl) (gone_clear (s := s) (pk := [2, 3]) (t := 2) rfl) rfl ?_
  refine g_box (.agg [(.int .i64 b_2.1), (.int .i64 b_2.2)]) (rd_of (keep_clear (s := s) (pk := [2, 3]) h1 rfl (map_agg (maps_cons rfl (maps_cons rfl maps_nil)))) rfl) (gone_clear (s := s) (pk := [2, 3]) (t := 3) rfl) rfl ?_
  refine g_v0 (.bool false) rfl rfl ?_
  refine g_end ?_
  refine e_end ?_
  refine renew [(2, (.ref (.bx 2) 0 [] (.agg [(.int .i64 a_1.1), (.int .i64 a_1.2)]))), (3, (.ref (.bx 3) 0 [] (.agg [(.int .i64 b_2.1), (.int .i64 b_2.2)]))), (4, (.bool false))] ⟨rfl, rfl, rfl⟩ ?_
  rintro s ⟨h2, h3, h4⟩
  refine .nsq ?_
  refine .seq ?_
  refine .seq ?_
  refine run_reg ?_
  refine e_end ?_
  refine g_v0 (.int .i64 0) rfl rfl ?_
  refine g_end ?_
  refine e_end ?_
  refine renew [(2, (.ref (.bx 2) 0 [] (.agg [(.int .i64 a_1.1), (.int .i64 a_1.2)]))), (3, (.ref (.bx 3) 0 [] (.agg [(.int .i64 b_2.1), (.int .i64 b_2.2)]))), (4, (.bool false)), (5, (.int .i64 0))] ⟨h2, h3, h4, rfl⟩ ?_
  rintro s ⟨h2, h3, h4, h5⟩
  refine .nsq ?_
  refine .block ?_
  refine .loop ?_
  exact t_f64_l1 H a_1 b_2 F 0 _ ⟨h2, h3, h4, h5⟩ h
end
def e64 (F : Nat) : Ent := ⟨64, dn2 (w_eqIntA2 F) (fun (r : Bool) => (Enc.enc (r : Bool))), 0, false⟩
theorem o64 {D : Den} {σ : Sig} {F : Nat} (hF : Fits2 Try.prog D σ) (H : H64 D σ F) : (e64 F).Ok Try.prog := by
  refine ⟨fun args r h => ?_, ⟨Try.f64, Try.func64, rfl, rfl⟩⟩
  obtain ⟨x0, x1, y, rfl, hy, rfl⟩ := dn2_open h
  exact contract_run hF (by kernel_rfl) Try.func64 rfl c64 (show 2 ≤ Try.f64.ntmps by decide) (t64 H x0 x1 _ ⟨rfl, rfl⟩ hy)
/- loop.example/g01109/laws.eqIntA2S -/
def A35_2 : AC := (AC.cond (O.t 14) AC.skip (AC.exit 0))
def A35_4 : AC := (AC.cond (O.t 26) (AC.seq (AC.reg [] [(I.mk (some 4) none false (X.v (A.mov (O.k (V.bool false)))))] []) AC.ret) AC.skip)
def A35_5 : AC := (AC.reg [] [(I.mk (some 15) none false (X.v (A.mov (O.t 5)))), (I.mk (some 16) none false (X.v (A.bin BinOp.add (O.t 15) (O.k (V.int IntKind.i64 (Int.ofNat 1)))))), (I.mk (some 5) none false (X.v (A.mov (O.t 16))))] [])
def A35_3 : AC := (AC.seq (AC.block 1 (AC.seq (AC.reg [] [(I.mk (some 17) none false (X.v (A.mov (O.t 0)))), (I.mk (some 18) none false (X.v (A.mov (O.t 5)))), (I.mk (some 19) none false (X.v (A.idx (O.t 17) (O.t 18) 2))), (I.mk (some 20) none false (X.v (A.load (Sh.ag [Sh.s, Sh.s]) (O.t 19)))), (I.mk (some 21) none false (X.v (A.mov (O.t 1)))), (I.mk (some 22) none false (X.v (A.mov (O.t 5)))), (I.mk (some 23) none false (X.v (A.idx (O.t 21) (O.t 22) 2))), (I.mk (some 24) none false (X.v (A.load (Sh.ag [Sh.s, Sh.s]) (O.t 23)))), (I.mk (some 25) none false (X.call (O.k (V.fn 64 [] [])) [(O.t 20), (O.t 24)])), (I.mk (some 26) none false (X.v (A.un UnOp.not (O.t 25))))] []) A35_4)) A35_5)
def A35_1 : AC := (AC.seq (AC.seq (AC.reg [] [(I.mk (some 11) none false (X.v (A.mov (O.t 5)))), (I.mk (some 12) none false (X.v (A.mov (O.t 0)))), (I.mk (some 13) none false (X.v (A.len (O.t 12)))), (I.mk (some 14) none false (X.v (A.bin BinOp.lss (O.t 11) (O.t 13))))] []) A35_2) A35_3)
def A35_6 : AC := (AC.seq (AC.reg [] [(I.mk (some 4) none false (X.v (A.mov (O.k (V.bool true)))))] []) AC.ret)
def A35_8 : AC := (AC.cond (O.t 10) (AC.seq (AC.reg [] [(I.mk (some 4) none false (X.v (A.mov (O.k (V.bool false)))))] []) AC.ret) AC.skip)
def A35_10 : AC := (AC.block 0 (AC.loop A35_1))
def A35_9 : AC := (AC.seq (AC.seq (AC.reg [] [(I.mk (some 5) none false (X.v (A.mov (O.k (V.int IntKind.i64 (Int.ofNat 0))))))] []) A35_10) A35_6)
def A35_7 : AC := (AC.seq (AC.seq (AC.reg [] [(I.mk (some 6) none false (X.v (A.mov (O.t 0)))), (I.mk (some 7) none false (X.v (A.len (O.t 6)))), (I.mk (some 8) none false (X.v (A.mov (O.t 1)))), (I.mk (some 9) none false (X.v (A.len (O.t 8)))), (I.mk (some 10) none false (X.v (A.bin BinOp.neq (O.t 7) (O.t 9))))] []) A35_8) A35_9)
def A35 : AC := (AC.seq (AC.reg [] [(I.mk (some 4) none false (X.v (A.mov (O.k (V.bool false)))))] []) A35_7)
def an35 : List An := []
theorem c35 : cC Try.prog Try.f35.ntmps an35 (Try.f35.body.getD .skip) = some A35 := by kernel_rfl
structure H35 (D : Den) (σ : Sig) (F : Nat) : Prop where
  c64 : ∀ x0 x1 r, w_eqIntA2 F x0 x1 = some r → D 64 [Enc.enc x0, Enc.enc x1] = some (Enc.enc (r : Bool))
  g64 : σ 64 = some (0, false)
abbrev R35 (r : Bool) : (Nat → V) → Prop := RR Try.prog [.tmp 4] 0 false (Enc.enc (r : Bool))
section
variable {D : Den} {σ : Sig} {F : Nat} {r : Bool}
def w_eqIntA2S_l1 (F : Nat) (a_1 : (List (Int × Int))) (b_2 : (List (Int × Int)))  : Nat → Int → Option Bool
  | 0, _ => none
  | k + 1, i_6 =>
    bif decide (i_6 < (a_1.length : Int)) then
      (idx a_1 i_6).bind fun e_10 =>
      (idx b_2 i_6).bind fun e_11 =>
      (w_eqIntA2 F e_10 e_11).bind fun r_12 =>
      bif (!r_12) then
        some false
      else
        (w_eqIntA2S_l1 F a_1 b_2 k) (w64 (i_6 + 1))
    else
      some true
theorem t_f35_l1 (H : H35 D σ F) (a_1 : (List (Int × Int))) (b_2 : (List (Int × Int)))  : ∀ (k : Nat) (i_6 : Int) (s : Nat → V), Facts [(0, (Enc.enc (a_1 : List (Int × Int)))), (1, (Enc.enc (b_2 : List (Int × Int)))), (4, (.bool false)), (5, (.int .i64 i_6))] s → w_eqIntA2S_l1 F a_1 b_2 k i_6 = some r → Run D σ (R35 r) (.run A35_1 [.lp A35_1, .bk 0, .sq A35_6]) s := by
  intro k
  induction k with
  | zero => intro i_6 s _ h; exact nomatch (h : (none : Option _) = some r)
  | succ k ih =>
    intro i_6 s hs h
    rw [w_eqIntA2S_l1] at h
    obtain ⟨h0, h1, h4, h5⟩ := hs
    refine .seq ?_
    refine .seq ?_
    refine run_reg ?_
    refine e_end ?_
    refine g_v1 (t := 5) (u := (.int .i64 i_6)) (.int .i64 i_6) h5 rfl rfl ?_
    refine g_v1 (t := 0) (u := (Enc.enc (a_1 : List (Int × Int)))) (Enc.enc (a_1 : List (Int × Int))) h0 rfl rfl ?_
    refine g_v (.int .i64 (a_1.length : Int)) (ev_len (xs := a_1) rfl) ?_
    refine g_v2 (t1 := 11) (t2 := 13) (u1 := (.int .i64 i_6)) (u2 := (.int .i64 (a_1.length : Int))) (.bool (decide (i_6 < (a_1.length : Int)))) rfl rfl rfl rfl ?_
    refine g_end ?_
    refine e_end ?_
    refine renew [(0, (Enc.enc (a_1 : List (Int × Int)))), (1, (Enc.enc (b_2 : List (Int × Int)))), (4, (.bool false)), (5, (.int .i64 i_6)), (14, (.bool (decide (i_6 < (a_1.length : Int)))))] ⟨h0, h1, h4, h5, rfl⟩ ?_
    rintro s ⟨h0, h1, h4, h5, h14⟩
    refine .nsq ?_
    refine run_cond (t := decide (i_6 < (a_1.length : Int))) h14 h (fun h => ?_) (fun h => ?_)
    · refine .skip ?_
      refine .nsq ?_
      refine .seq ?_
      refine .block ?_
      refine .seq ?_
      refine run_reg ?_
      refine e_end ?_
      refine g_v1 (t := 0) (u := (Enc.enc (a_1 : List (Int × Int)))) (Enc.enc (a_1 : List (Int × Int))) h0 rfl rfl ?_
      refine g_v1 (t := 5) (u := (.int .i64 i_6)) (.int .i64 i_6) h5 rfl rfl ?_
      obtain ⟨e_10, E_e_10, h⟩ := bind_some h
      refine g_v (.ref .sh 0 [] (.agg [(.int .i64 e_10.1), (.int .i64 e_10.2)])) (ev_idx (t := .sh) (lo := 0) (xs := a_1) rfl rfl E_e_10 rfl rfl) ?_
      refine g_v1 (t := 19) (u := (.ref .sh 0 [] (.agg [(.int .i64 e_10.1), (.int .i64 e_10.2)]))) (.agg [(.int .i64 e_10.1), (.int .i64 e_10.2)]) rfl rfl rfl ?_
      refine g_v1 (t := 1) (u := (Enc.enc (b_2 : List (Int × Int)))) (Enc.enc (b_2 : List (Int × Int))) h1 rfl rfl ?_
      refine g_v1 (t := 5) (u := (.int .i64 i_6)) (.int .i64 i_6) h5 rfl rfl ?_
      obtain ⟨e_11, E_e_11, h⟩ := bind_some h
      refine g_v (.ref .sh 0 [] (.agg [(.int .i64 e_11.1), (.int .i64 e_11.2)])) (ev_idx (t := .sh) (lo := 0) (xs := b_2) rfl rfl E_e_11 rfl rfl) ?_
      refine g_v1 (t := 23) (u := (.ref .sh 0 [] (.agg [(.int .i64 e_11.1), (.int .i64 e_11.2)]))) (.agg [(.int .i64 e_11.1), (.int .i64 e_11.2)]) rfl rfl rfl ?_
      obtain ⟨r_12, E_r_12, h⟩ := bind_some h
      refine g_call (m := 0) (al := false) (r := (Enc.enc (r_12 : Bool))) [Enc.enc (e_10 : (Int × Int)), Enc.enc (e_11 : (Int × Int))] (ta_cons (v := (.agg [(.int .i64 e_10.1), (.int .i64 e_10.2)])) rfl rfl (Enc.erase_enc (e_10 : (Int × Int))) (ta_cons (v := (.agg [(.int .i64 e_11.1), (.int .i64 e_11.2)])) rfl rfl (Enc.erase_enc (e_11 : (Int × Int))) ta_nil)) (H.c64 _ _ _ E_r_12) H.g64 rfl rfl rfl rfl ?_
      refine g_v1 (t := 25) (u := (.bool r_12)) (.bool (!r_12)) rfl rfl rfl ?_
      refine g_end ?_
      refine e_end ?_
      refine renew [(0, (Enc.enc (a_1 : List (Int × Int)))), (1, (Enc.enc (b_2 : List (Int × Int)))), (4, (.bool false)), (5, (.int .i64 i_6)), (26, (.bool (!r_12)))] ⟨h0, h1, h4, h5, rfl⟩ ?_
      rintro s ⟨h0, h1, h4, h5, h26⟩
      refine .nsq ?_
      refine run_cond (t := (!r_12)) h26 h (fun h => ?_) (fun h => ?_)
      · refine .seq ?_
        refine run_reg ?_
        refine e_end ?_
        refine g_v0 (.bool false) rfl rfl ?_
        refine g_end ?_
        refine e_end ?_
        refine renew [(0, (Enc.enc (a_1 : List (Int × Int)))), (1, (Enc.enc (b_2 : List (Int × Int)))), (4, (.bool false)), (5, (.int .i64 i_6))] ⟨h0, h1, rfl, h5⟩ ?_
        rintro s ⟨h0, h1, h4, h5⟩
        refine .nsq ?_
        refine .ret ?_
        have hr := Option.some.inj h
        subst hr
        exact rrA (res_tmp h4) rfl
      · refine .skip ?_
        refine .nbk ?_
        refine .nsq ?_
        refine run_reg ?_
        refine e_end ?_
        refine g_v1 (t := 5) (u := (.int .i64 i_6)) (.int .i64 i_6) h5 rfl rfl ?_
        refine g_v1 (t := 15) (u := (.int .i64 i_6)) (.int .i64 (w64 (i_6 + 1))) rfl rfl rfl ?_
        refine g_v1 (t := 16) (u := (.int .i64 (w64 (i_6 + 1)))) (.int .i64 (w64 (i_6 + 1))) rfl rfl rfl ?_
        refine g_end ?_
        refine e_end ?_
        refine renew [(0, (Enc.enc (a_1 : List (Int × Int)))), (1, (Enc.enc (b_2 : List (Int × Int)))), (4, (.bool false)), (5, (.int .i64 (w64 (i_6 + 1))))] ⟨h0, h1, h4, rfl⟩ ?_
        rintro s ⟨h0, h1, h4, h5⟩
        refine .nlp ?_
        exact ih (w64 (i_6 + 1)) _ ⟨h0, h1, h4, h5⟩ h
    · refine .exit ?_
      refine .esq ?_
      refine .elp ?_
      refine .ebk ?_
      refine .nsq ?_
      refine .seq ?_
      refine run_reg ?_
      refine e_end ?_
      refine g_v0 (.bool true) rfl rfl ?_
      refine g_end ?_
      refine e_end ?_
      refine renew [(4, (.bool true))] rfl ?_
      rintro s h4
      refine .nsq ?_
      refine .ret ?_
      have hr := Option.some.inj h
      subst hr
      exact rrA (res_tmp h4) rfl
def w_eqIntA2S (F : Nat) (a_1 : (List (Int × Int))) (b_2 : (List (Int × Int))) : Option Bool :=
  bif ((a_1.length : Int) != (b_2.length : Int)) then
    some false
  else
    w_eqIntA2S_l1 F a_1 b_2 F 0
theorem t35 (H : H35 D σ F) (a_1 : (List (Int × Int))) (b_2 : (List (Int × Int))) (s : Nat → V) (hs : Facts [(0, (Enc.enc (a_1 : List (Int × Int)))), (1, (Enc.enc (b_2 : List (Int × Int))))] s) (h : w_eqIntA2S F a_1 b_2 = some r) : Run D σ (R35 r) (.run A35 []) s := by
  unfold w_eqIntA2S at h
  obtain ⟨h0, h1⟩ := hs
  refine .seq ?_
  refine run_reg ?_
  refine e_end ?_
  refine g_v0 (.bool false) rfl rfl ?_
  refine g_end ?_
  refine e_end ?_
  refine renew [(0, (Enc.enc (a_1 : List (Int × Int)))), (1, (Enc.enc (b_2 : List (Int × Int)))), (4, (.bool false))] ⟨h0, h1, rfl⟩ ?_
  rintro s ⟨h0, h1, h4⟩
  refine .nsq ?_
  refine .seq ?_
  refine .seq ?_
  refine run_reg ?_
  refine e_end ?_
  refine g_v1 (t := 0) (u := (Enc.enc (a_1 : List (Int × Int)))) (Enc.enc (a_1 : List (Int × Int))) h0 rfl rfl ?_
  refine g_v (.int .i64 (a_1.length : Int)) (ev_len (xs := a_1) rfl) ?_
  refine g_v1 (t := 1) (u := (Enc.enc (b_2 : List (Int × Int)))) (Enc.enc (b_2 : List (Int × Int))) h1 rfl rfl ?_
  refine g_v (.int .i64 (b_2.length : Int)) (ev_len (xs := b_2) rfl) ?_
  refine g_v2 (t1 := 7) (t2 := 9) (u1 := (.int .i64 (a_1.length : Int))) (u2 := (.int .i64 (b_2.length : Int))) (.bool ((a_1.length : Int) != (b_2.length : Int))) rfl rfl rfl rfl ?_
  refine g_end ?_
  refine e_end ?_
  refine renew [(0, (Enc.enc (a_1 : List (Int × Int)))), (1, (Enc.enc (b_2 : List (Int × Int)))), (4, (.bool false)), (10, (.bool ((a_1.length : Int) != (b_2.length : Int))))] ⟨h0, h1, h4, rfl⟩ ?_
  rintro s ⟨h0, h1, h4, h10⟩
  refine .nsq ?_
  refine run_cond (t := ((a_1.length : Int) != (b_2.length : Int))) h10 h (fun h => ?_) (fun h => ?_)
  · refine .seq ?_
    refine run_reg ?_
    refine e_end ?_
    refine g_v0 (.bool false) rfl rfl ?_
    refine g_end ?_
    refine e_end ?_
    refine renew [(0, (Enc.enc (a_1 : List (Int × Int)))), (1, (Enc.enc (b_2 : List (Int × Int)))), (4, (.bool false))] ⟨h0, h1, rfl⟩ ?_
    rintro s ⟨h0, h1, h4⟩
    refine .nsq ?_
    refine .ret ?_
    have hr := Option.some.inj h
    subst hr
    exact rrA (res_tmp h4) rfl
  · refine .skip ?_
    refine .nsq ?_
    refine .seq ?_
    refine .seq ?_
    refine run_reg ?_
    refine e_end ?_
    refine g_v0 (.int .i64 0) rfl rfl ?_
    refine g_end ?_
    refine e_end ?_
    refine renew [(0, (Enc.enc (a_1 : List (Int × Int)))), (1, (Enc.enc (b_2 : List (Int × Int)))), (4, (.bool false)), (5, (.int .i64 0))] ⟨h0, h1, h4, rfl⟩ ?_
    rintro s ⟨h0, h1, h4, h5⟩
    refine .nsq ?_
    refine .block ?_
    refine .loop ?_
    exact t_f35_l1 H a_1 b_2 F 0 _ ⟨h0, h1, h4, h5⟩ h
end
def e35 (F : Nat) : Ent := ⟨35, dn2 (w_eqIntA2S F) (fun (r : Bool) => (Enc.enc (r : Bool))), 0, false⟩
theorem o35 {D : Den} {σ : Sig} {F : Nat} (hF : Fits2 Try.prog D σ) (H : H35 D σ F) : (e35 F).Ok Try.prog := by
  refine ⟨fun args r h => ?_, ⟨Try.f35, Try.func35, rfl, rfl⟩⟩
  obtain ⟨x0, x1, y, rfl, hy, rfl⟩ := dn2_open h
  exact contract_run hF (by kernel_rfl) Try.func35 rfl c35 (show 2 ≤ Try.f35.ntmps by decide) (t35 H x0 x1 _ ⟨rfl, rfl⟩ hy)
/- loop.example/g01109/laws.eqGraph -/
def A14_2 : AC := (AC.cond (O.t 9) (AC.seq (AC.reg [] [(I.mk (some 4) none false (X.v (A.mov (O.k (V.bool false)))))] []) AC.ret) AC.skip)
def A14_4 : AC := (AC.cond (O.t 15) (AC.seq (AC.reg [] [(I.mk (some 4) none false (X.v (A.mov (O.k (V.bool false)))))] []) AC.ret) AC.skip)
def A14_5 : AC := (AC.seq (AC.reg [] [(I.mk (some 4) none false (X.v (A.mov (O.k (V.bool true)))))] []) AC.ret)
def A14_3 : AC := (AC.seq (AC.seq (AC.reg [] [(I.mk (some 10) none false (X.v (A.fld (O.t 2) 1 1))), (I.mk (some 11) none false (X.v (A.load Sh.p (O.t 10)))), (I.mk (some 12) none false (X.v (A.fld (O.t 3) 1 1))), (I.mk (some 13) none false (X.v (A.load Sh.p (O.t 12)))), (I.mk (some 14) none false (X.call (O.k (V.fn 35 [] [])) [(O.t 11), (O.t 13)])), (I.mk (some 15) none false (X.v (A.un UnOp.not (O.t 14))))] []) A14_4) A14_5)
def A14_1 : AC := (AC.seq (AC.seq (AC.reg [] [(I.mk (some 5) none false (X.v (A.fld (O.t 2) 0 0))), (I.mk (some 6) none false (X.v (A.load Sh.s (O.t 5)))), (I.mk (some 7) none false (X.v (A.fld (O.t 3) 0 0))), (I.mk (some 8) none false (X.v (A.load Sh.s (O.t 7)))), (I.mk (some 9) none false (X.v (A.bin BinOp.neq (O.t 6) (O.t 8))))] []) A14_2) A14_3)
def A14 : AC := (AC.seq (AC.reg [.clr [2, 3]] [(I.mk (some 2) none false (X.box (O.t 0))), (I.mk (some 3) none false (X.box (O.t 1))), (I.mk (some 4) none false (X.v (A.mov (O.k (V.bool false)))))] []) A14_1)
def an14 : List An := [{ id := 0, pre := [.clr [2, 3]], ep := [] }]
theorem c14 : cC Try.prog Try.f14.ntmps an14 (Try.f14.body.getD .skip) = some A14 := by kernel_rfl
structure H14 (D : Den) (σ : Sig) (F : Nat) : Prop where
  c35 : ∀ x0 x1 r, w_eqIntA2S F x0 x1 = some r → D 35 [Enc.enc x0, Enc.enc x1] = some (Enc.enc (r : Bool))
  g35 : σ 35 = some (0, false)
abbrev R14 (r : Bool) : (Nat → V) → Prop := RR Try.prog [.tmp 4] 0 false (Enc.enc (r : Bool))
section
variable {D : Den} {σ : Sig} {F : Nat} {r : Bool}
def w_eqGraph (F : Nat) (a_1 : (Int × (List (Int × Int)))) (b_2 : (Int × (List (Int × Int)))) : Option Bool :=
  bif (a_1.1 != b_2.1) then
    some false
  else
    (w_eqIntA2S F a_1.2 b_2.2).bind fun r_3 =>
    bif (!r_3) then
      some false
    else
      some true
theorem t14 (H : H14 D σ F) (a_1 : (Int × (List (Int × Int)))) (b_2 : (Int × (List (Int × Int)))) (s : Nat → V) (hs : Facts [(0, (.agg [(.int .i64 a_1.1), (Enc.enc (a_1.2 : List (Int × Int)))])), (1, (.agg [(.int .i64 b_2.1), (Enc.enc (b_2.2 : List (Int × Int)))]))] s) (h : w_eqGraph F a_1 b_2 = some r) : Run D σ (R14 r) (.run A14 []) s := by
  unfold w_eqGraph at h
  obtain ⟨h0, h1⟩ := hs
  refine .seq ?_
  refine run_reg ?_
  refine e_clr ?_
  refine e_end ?_
  refine g_box (.agg [(.int .i64 a_1.1), (Enc.enc (a_1.2 : List (Int × Int)))]) (rd_of (keep_clear (s := s) (pk := [2, 3]) h0 rfl (map_agg (maps_cons rfl (maps_cons (Enc.map_enc _ (a_1.2 : List (Int × Int))) maps_nil)))) rfl) (gone_clear (s := s) (pk := [2, 3]) (t := 2) rfl) rfl ?_
  refine g_box (.agg [(.int .i64 b_2.1), (Enc.enc (b_2.2 : List (Int × Int)))]) (rd_of (keep_clear (s := s) (pk := [2, 3]) h1 rfl (map_agg (maps_cons rfl (maps_cons (Enc.map_enc _ (b_2.2 : List (Int × Int))) maps_nil)))) rfl) (gone_clear (s := s) (pk := [2, 3]) (t := 3) rfl) rfl ?_
  refine g_v0 (.bool false) rfl rfl ?_
  refine g_end ?_
  refine e_end ?_
  refine renew [(2, (.ref (.bx 2) 0 [] (.agg [(.int .i64 a_1.1), (Enc.enc (a_1.2 : List (Int × Int)))]))), (3, (.ref (.bx 3) 0 [] (.agg [(.int .i64 b_2.1), (Enc.enc (b_2.2 : List (Int × Int)))]))), (4, (.bool false))] ⟨rfl, rfl, rfl⟩ ?_
  rintro s ⟨h2, h3, h4⟩
  refine .nsq ?_
  refine .seq ?_
  refine .seq ?_
  refine run_reg ?_
  refine e_end ?_
  refine g_v1 (t := 2) (u := (.ref (.bx 2) 0 [] (.agg [(.int .i64 a_1.1), (Enc.enc (a_1.2 : List (Int × Int)))]))) (.ref (.bx 2) 0 [0] (.int .i64 a_1.1)) h2 rfl rfl ?_
  refine g_v1 (t := 5) (u := (.ref (.bx 2) 0 [0] (.int .i64 a_1.1))) (.int .i64 a_1.1) rfl rfl rfl ?_
  refine g_v1 (t := 3) (u := (.ref (.bx 3) 0 [] (.agg [(.int .i64 b_2.1), (Enc.enc (b_2.2 : List (Int × Int)))]))) (.ref (.bx 3) 0 [0] (.int .i64 b_2.1)) h3 rfl rfl ?_
  refine g_v1 (t := 7) (u := (.ref (.bx 3) 0 [0] (.int .i64 b_2.1))) (.int .i64 b_2.1) rfl rfl rfl ?_
  refine g_v2 (t1 := 6) (t2 := 8) (u1 := (.int .i64 a_1.1)) (u2 := (.int .i64 b_2.1)) (.bool (a_1.1 != b_2.1)) rfl rfl rfl rfl ?_
  refine g_end ?_
  refine e_end ?_
  refine renew [(2, (.ref (.bx 2) 0 [] (.agg [(.int .i64 a_1.1), (Enc.enc (a_1.2 : List (Int × Int)))]))), (3, (.ref (.bx 3) 0 [] (.agg [(.int .i64 b_2.1), (Enc.enc (b_2.2 : List (Int × Int)))]))), (4, (.bool false)), (9, (.bool (a_1.1 != b_2.1)))] ⟨h2, h3, h4, rfl⟩ ?_
  rintro s ⟨h2, h3, h4, h9⟩
  refine .nsq ?_
  refine run_cond (t := (a_1.1 != b_2.1)) h9 h (fun h => ?_) (fun h => ?_)
  · refine .seq ?_
    refine run_reg ?_
    refine e_end ?_
    refine g_v0 (.bool false) rfl rfl ?_
    refine g_end ?_
    refine e_end ?_
    refine renew [(2, (.ref (.bx 2) 0 [] (.agg [(.int .i64 a_1.1), (Enc.enc (a_1.2 : List (Int × Int)))]))), (3, (.ref (.bx 3) 0 [] (.agg [(.int .i64 b_2.1), (Enc.enc (b_2.2 : List (Int × Int)))]))), (4, (.bool false))] ⟨h2, h3, rfl⟩ ?_
    rintro s ⟨h2, h3, h4⟩
    refine .nsq ?_
    refine .ret ?_
    have hr := Option.some.inj h
    subst hr
    exact rrA (res_tmp h4) rfl
  · refine .skip ?_
    refine .nsq ?_
    refine .seq ?_
    refine .seq ?_
    refine run_reg ?_
    refine e_end ?_
    refine g_v1 (t := 2) (u := (.ref (.bx 2) 0 [] (.agg [(.int .i64 a_1.1), (Enc.enc (a_1.2 : List (Int × Int)))]))) (.ref (.bx 2) 0 [1] (Enc.enc (a_1.2 : List (Int × Int)))) h2 rfl rfl ?_
    refine g_v1 (t := 10) (u := (.ref (.bx 2) 0 [1] (Enc.enc (a_1.2 : List (Int × Int))))) (Enc.enc (a_1.2 : List (Int × Int))) rfl rfl rfl ?_
    refine g_v1 (t := 3) (u := (.ref (.bx 3) 0 [] (.agg [(.int .i64 b_2.1), (Enc.enc (b_2.2 : List (Int × Int)))]))) (.ref (.bx 3) 0 [1] (Enc.enc (b_2.2 : List (Int × Int)))) h3 rfl rfl ?_
    refine g_v1 (t := 12) (u := (.ref (.bx 3) 0 [1] (Enc.enc (b_2.2 : List (Int × Int))))) (Enc.enc (b_2.2 : List (Int × Int))) rfl rfl rfl ?_
    obtain ⟨r_3, E_r_3, h⟩ := bind_some h
    refine g_call (m := 0) (al := false) (r := (Enc.enc (r_3 : Bool))) [Enc.enc (a_1.2 : (List (Int × Int))), Enc.enc (b_2.2 : (List (Int × Int)))] (ta_cons (v := (Enc.enc (a_1.2 : List (Int × Int)))) rfl rfl (Enc.erase_enc (a_1.2 : (List (Int × Int)))) (ta_cons (v := (Enc.enc (b_2.2 : List (Int × Int)))) rfl rfl (Enc.erase_enc (b_2.2 : (List (Int × Int)))) ta_nil)) (H.c35 _ _ _ E_r_3) H.g35 rfl rfl rfl rfl ?_
    refine g_v1 (t := 14) (u := (.bool r_3)) (.bool (!r_3)) rfl rfl rfl ?_
    refine g_end ?_
    refine e_end ?_
    refine renew [(4, (.bool false)), (15, (.bool (!r_3)))] ⟨h4, rfl⟩ ?_
    rintro s ⟨h4, h15⟩
    refine .nsq ?_
    refine run_cond (t := (!r_3)) h15 h (fun h => ?_) (fun h => ?_)
    · refine .seq ?_
      refine run_reg ?_
      refine e_end ?_
      refine g_v0 (.bool false) rfl rfl ?_
      refine g_end ?_
      refine e_end ?_
      refine renew [(4, (.bool false))] rfl ?_
      rintro s h4
      refine .nsq ?_
      refine .ret ?_
      have hr := Option.some.inj h
      subst hr
      exact rrA (res_tmp h4) rfl
    · refine .skip ?_
      refine .nsq ?_
      refine .seq ?_
      refine run_reg ?_
      refine e_end ?_
      refine g_v0 (.bool true) rfl rfl ?_
      refine g_end ?_
      refine e_end ?_
      refine renew [(4, (.bool true))] rfl ?_
      rintro s h4
      refine .nsq ?_
      refine .ret ?_
      have hr := Option.some.inj h
      subst hr
      exact rrA (res_tmp h4) rfl
end
def e14 (F : Nat) : Ent := ⟨14, dn2 (w_eqGraph F) (fun (r : Bool) => (Enc.enc (r : Bool))), 0, false⟩
theorem o14 {D : Den} {σ : Sig} {F : Nat} (hF : Fits2 Try.prog D σ) (H : H14 D σ F) : (e14 F).Ok Try.prog := by
  refine ⟨fun args r h => ?_, ⟨Try.f14, Try.func14, rfl, rfl⟩⟩
  obtain ⟨x0, x1, y, rfl, hy, rfl⟩ := dn2_open h
  exact contract_run hF (by kernel_rfl) Try.func14 rfl c14 (show 2 ≤ Try.f14.ntmps by decide) (t14 H x0 x1 _ ⟨rfl, rfl⟩ hy)
/- loop.example/g01109/laws.FnExactBandwidthBound -/
def A7_1 : AC := (AC.cond (O.t 34) (AC.seq (AC.reg [] [(I.mk (some 2) none false (X.v (A.mov (O.k (V.bool false)))))] []) AC.ret) AC.skip)
def A7_3 : AC := (AC.cond (O.t 39) (AC.seq (AC.reg [] [(I.mk (some 2) none false (X.v (A.mov (O.k (V.bool false)))))] []) AC.ret) AC.skip)
def A7_4 : AC := (AC.seq (AC.reg [] [(I.mk (some 2) none false (X.v (A.mov (O.k (V.bool true)))))] []) AC.ret)
def A7_2 : AC := (AC.seq (AC.seq (AC.reg [] [(I.mk (some 35) none false (X.v (A.load (Sh.ag [Sh.s, Sh.p]) (O.t 6)))), (I.mk (some 36) none false (X.v (A.load (Sh.ag [Sh.s, Sh.p]) (O.t 1)))), (I.mk (some 37) none false (X.call (O.k (V.fn 11 [] [])) [(O.t 36)])), (I.mk (some 38) none false (X.call (O.k (V.fn 14 [] [])) [(O.t 35), (O.t 37)])), (I.mk (some 39) none false (X.v (A.un UnOp.not (O.t 38))))] []) A7_3) A7_4)
def A7_8 : AC := (AC.cond (O.t 13) (AC.seq (AC.reg [] [(I.mk (some 2) none false (X.v (A.mov (O.k (V.bool true)))))] []) AC.ret) AC.skip)
def A7_12 : AC := (AC.seq (AC.seq (AC.reg [] [(I.mk (some 27) none false (X.v (A.mov (O.t 7)))), (I.mk (some 28) none false (X.v (A.mov (O.t 4)))), (I.mk (some 29) none false (X.v (A.bin BinOp.neq (O.t 27) (O.t 28)))), (I.mk (some 30) none false (X.v (A.mov (O.t 29)))), (I.mk (some 31) (some (30, false)) false (X.v (A.mov (O.t 8)))), (I.mk (some 32) (some (30, false)) false (X.v (A.mov (O.t 5)))), (I.mk (some 33) (some (30, false)) false (X.v (A.beq true (O.t 31) (O.t 32)))), (I.mk (some 34) none false (X.v (A.pick (O.t 30) (O.k (V.bool true)) (O.t 33))))] []) A7_1) A7_2)
def A7_11 : AC := (AC.seq (AC.reg [] [(I.mk (some 23) none false (X.v (A.load (Sh.ag [Sh.s, Sh.p]) (O.t 6)))), (I.mk (some 24) none false (X.call (O.k (V.fn 26 [] [])) [(O.t 23)])), (I.mk (some 22) none false (X.v (A.mov (O.t 24)))), (I.mk (some 25) none false (X.v (A.ext (O.t 22) 0))), (I.mk (some 26) none false (X.v (A.ext (O.t 22) 1))), (I.mk (some 7) none false (X.v (A.mov (O.t 25)))), (I.mk (some 8) none false (X.v (A.mov (O.t 26))))] []) A7_12)
def A7_10 : AC := (AC.seq (AC.reg [.clr [6]] [(I.mk (some 20) none false (X.v (A.load (Sh.ag [Sh.s, Sh.p]) (O.t 1)))), (I.mk (some 21) none false (X.call (O.k (V.fn 11 [] [])) [(O.t 20)])), (I.mk (some 6) none false (X.alloc (V.agg [(V.int IntKind.i64 (Int.ofNat 0)), (V.sl Tok.nl (Sh.ag [Sh.s, Sh.s]) 0 [])]))), (I.mk none none false (X.store (Sh.ag [Sh.s, Sh.p]) (O.t 6) (O.t 21)))] []) A7_11)
def A7_9 : AC := (AC.seq (AC.reg [] [(I.mk (some 15) none false (X.v (A.load (Sh.ag [Sh.s, Sh.p]) (O.t 1)))), (I.mk (some 16) none false (X.call (O.k (V.fn 11 [] [])) [(O.t 15)])), (I.mk (some 17) none false (X.call (O.k (V.fn 25 [] [])) [(O.t 16)])), (I.mk (some 14) none false (X.v (A.mov (O.t 17)))), (I.mk (some 18) none false (X.v (A.ext (O.t 14) 0))), (I.mk (some 19) none false (X.v (A.ext (O.t 14) 1))), (I.mk (some 4) none false (X.v (A.mov (O.t 18)))), (I.mk (some 5) none false (X.v (A.mov (O.t 19))))] []) A7_10)
def A7_7 : AC := (AC.seq (AC.seq (AC.reg [] [(I.mk (some 12) none false (X.v (A.mov (O.t 3)))), (I.mk (some 13) none false (X.v (A.bin BinOp.lss (O.t 12) (O.k (V.int IntKind.i64 (Int.ofNat 0))))))] []) A7_8) A7_9)
def A7_6 : AC := (AC.seq (AC.reg [] [(I.mk (some 9) none false (X.v (A.load (Sh.ag [Sh.s, Sh.p]) (O.t 1)))), (I.mk (some 10) none false (X.v (A.mov (O.t 3)))), (I.mk (some 11) none false (X.call (O.k (V.fn 9 [] [])) [(O.t 9), (O.t 10)])), (I.mk (some 3) none false (X.v (A.mov (O.t 11))))] []) A7_7)
def A7_5 : AC := (AC.seq (AC.reg [] [(I.mk (some 3) none false (X.v (A.mov (O.k (V.int IntKind.i64 (Int.ofNat 1048576))))))] []) A7_6)
def A7 : AC := (AC.seq (AC.reg [.clr [1]] [(I.mk (some 1) none false (X.box (O.t 0))), (I.mk (some 2) none false (X.v (A.mov (O.k (V.bool false)))))] []) A7_5)
def an7 : List An := [{ id := 0, pre := [.clr [1]], ep := [] }, { id := 6, pre := [.clr [6]], ep := [] }]
theorem c7 : cC Try.prog Try.f7.ntmps an7 (Try.f7.body.getD .skip) = some A7 := by kernel_rfl
structure H7 (D : Den) (σ : Sig) (F : Nat) : Prop where
  c9 : ∀ x0 x1 r, w_szGraph F x0 x1 = some r → D 9 [Enc.enc x0, Enc.enc x1] = some (Enc.enc (r : Int))
  g9 : σ 9 = some (0, false)
  c11 : ∀ x0 r, w_toGraph F x0 = some r → D 11 [Enc.enc x0] = some (Enc.enc (r : (Int × (List (Int × Int)))))
  g11 : σ 11 = some (0, true)
  c25 : ∀ x0 r, s_BandwidthBound F x0 = some r → D 25 [Enc.enc x0] = some (.tup [Enc.enc (r.1 : Int), Enc.enc (r.2 : Bool)])
  g25 : σ 25 = some (0, false)
  c26 : ∀ x0 r, i_BandwidthBound F x0 = some r → D 26 [Enc.enc x0] = some (.tup [Enc.enc (r.1 : Int), Enc.enc (r.2 : Bool)])
  g26 : σ 26 = some (0, false)
  c14 : ∀ x0 x1 r, w_eqGraph F x0 x1 = some r → D 14 [Enc.enc x0, Enc.enc x1] = some (Enc.enc (r : Bool))
  g14 : σ 14 = some (0, false)
abbrev R7 (r : Bool) : (Nat → V) → Prop := RR Try.prog [.tmp 2] 0 false (Enc.enc (r : Bool))
section
variable {D : Den} {σ : Sig} {F : Nat} {r : Bool}
def w_FnExactBandwidthBound_j1 (F : Nat) (aG_1 : (Int × (List (Int × Int)))) (r_5 : (Int × (List (Int × Int))))  (t34_7 : Bool) : Option Bool :=
  bif t34_7 then
    some false
  else
    (w_toGraph F aG_1).bind fun r_8 =>
    (w_eqGraph F r_5 r_8).bind fun r_9 =>
    bif (!r_9) then
      some false
    else
      some true
theorem t_f7_j1 (H : H7 D σ F) (aG_1 : (Int × (List (Int × Int)))) (r_5 : (Int × (List (Int × Int))))  (t34_7 : Bool) (s : Nat → V) (hs : Facts [(1, (.ref (.bx 1) 0 [] (.agg [(.int .i64 aG_1.1), (Enc.enc (aG_1.2 : List (Int × Int)))]))), (2, (.bool false)), (6, (.ref (.bx 6) 0 [] (.agg [(.int .i64 r_5.1), (Enc.enc (r_5.2 : List (Int × Int)))]))), (34, (.bool t34_7))] s) (h : w_FnExactBandwidthBound_j1 F aG_1 r_5  t34_7 = some r) : Run D σ (R7 r) (.nrm [.sq A7_1, .sq A7_2]) s := by
  unfold w_FnExactBandwidthBound_j1 at h
  obtain ⟨h1, h2, h6, h34⟩ := hs
  refine .nsq ?_
  refine run_cond (t := t34_7) h34 h (fun h => ?_) (fun h => ?_)
  · refine .seq ?_
    refine run_reg ?_
    refine e_end ?_
    refine g_v0 (.bool false) rfl rfl ?_
    refine g_end ?_
    refine e_end ?_
    refine renew [(1, (.ref (.bx 1) 0 [] (.agg [(.int .i64 aG_1.1), (Enc.enc (aG_1.2 : List (Int × Int)))]))), (2, (.bool false)), (6, (.ref (.bx 6) 0 [] (.agg [(.int .i64 r_5.1), (Enc.enc (r_5.2 : List (Int × Int)))])))] ⟨h1, rfl, h6⟩ ?_
    rintro s ⟨h1, h2, h6⟩
    refine .nsq ?_
    refine .ret ?_
    have hr := Option.some.inj h
    subst hr
    exact rrA (res_tmp h2) rfl
  · refine .skip ?_
    refine .nsq ?_
    refine .seq ?_
    refine .seq ?_
    refine run_reg ?_
    refine e_end ?_
    refine g_v1 (t := 6) (u := (.ref (.bx 6) 0 [] (.agg [(.int .i64 r_5.1), (Enc.enc (r_5.2 : List (Int × Int)))]))) (.agg [(.int .i64 r_5.1), (Enc.enc (r_5.2 : List (Int × Int)))]) h6 rfl rfl ?_
    refine g_v1 (t := 1) (u := (.ref (.bx 1) 0 [] (.agg [(.int .i64 aG_1.1), (Enc.enc (aG_1.2 : List (Int × Int)))]))) (.agg [(.int .i64 aG_1.1), (Enc.enc (aG_1.2 : List (Int × Int)))]) h1 rfl rfl ?_
    obtain ⟨r_8, E_r_8, h⟩ := bind_some h
    refine g_call (m := 0) (al := true) (r := (Enc.enc (r_8 : (Int × (List (Int × Int)))))) [Enc.enc (aG_1 : (Int × (List (Int × Int))))] (ta_cons (v := (.agg [(.int .i64 aG_1.1), (Enc.enc (aG_1.2 : List (Int × Int)))])) rfl rfl (Enc.erase_enc (aG_1 : (Int × (List (Int × Int))))) ta_nil) (H.c11 _ _ E_r_8) H.g11 (hal_of (ht_cons (v := (.agg [(.int .i64 aG_1.1), (Enc.enc (aG_1.2 : List (Int × Int)))])) rfl rfl rfl ht_nil)) rfl rfl rfl ?_
    obtain ⟨r_9, E_r_9, h⟩ := bind_some h
    refine g_call (m := 0) (al := false) (r := (Enc.enc (r_9 : Bool))) [Enc.enc (r_5 : (Int × (List (Int × Int)))), Enc.enc (r_8 : (Int × (List (Int × Int))))] (ta_cons (v := (.agg [(.int .i64 r_5.1), (Enc.enc (r_5.2 : List (Int × Int)))])) rfl rfl (Enc.erase_enc (r_5 : (Int × (List (Int × Int))))) (ta_cons (v := (.agg [(.int .i64 r_8.1), (Enc.enc (r_8.2 : List (Int × Int)))])) rfl rfl (Enc.erase_enc (r_8 : (Int × (List (Int × Int))))) ta_nil)) (H.c14 _ _ _ E_r_9) H.g14 rfl rfl rfl rfl ?_
    refine g_v1 (t := 38) (u := (.bool r_9)) (.bool (!r_9)) rfl rfl rfl ?_
    refine g_end ?_
    refine e_end ?_
    refine renew [(2, (.bool false)), (39, (.bool (!r_9)))] ⟨h2, rfl⟩ ?_
    rintro s ⟨h2, h39⟩
    refine .nsq ?_
    refine run_cond (t := (!r_9)) h39 h (fun h => ?_) (fun h => ?_)
    · refine .seq ?_
      refine run_reg ?_
      refine e_end ?_
      refine g_v0 (.bool false) rfl rfl ?_
      refine g_end ?_
      refine e_end ?_
      refine renew [(2, (.bool false))] rfl ?_
      rintro s h2
      refine .nsq ?_
      refine .ret ?_
      have hr := Option.some.inj h
      subst hr
      exact rrA (res_tmp h2) rfl
    · refine .skip ?_
      refine .nsq ?_
      refine .seq ?_
      refine run_reg ?_
      refine e_end ?_
      refine g_v0 (.bool true) rfl rfl ?_
      refine g_end ?_
      refine e_end ?_
      refine renew [(2, (.bool true))] rfl ?_
      rintro s h2
      refine .nsq ?_
      refine .ret ?_
      have hr := Option.some.inj h
      subst hr
      exact rrA (res_tmp h2) rfl
def w_FnExactBandwidthBound (F : Nat) (aG_1 : (Int × (List (Int × Int)))) : Option Bool :=
  (w_szGraph F aG_1 1048576).bind fun r_2 =>
  bif decide (r_2 < 0) then
    some true
  else
    (w_toGraph F aG_1).bind fun r_3 =>
    (s_BandwidthBound F r_3).bind fun r_4 =>
    (w_toGraph F aG_1).bind fun r_5 =>
    (i_BandwidthBound F r_5).bind fun r_6 =>
    bif (r_6.1 != r_4.1) then
      w_FnExactBandwidthBound_j1 F aG_1 r_5 true
    else
      w_FnExactBandwidthBound_j1 F aG_1 r_5 (r_6.2 != r_4.2)
theorem t7 (H : H7 D σ F) (aG_1 : (Int × (List (Int × Int)))) (s : Nat → V) (hs : Facts [(0, (.agg [(.int .i64 aG_1.1), (Enc.enc (aG_1.2 : List (Int × Int)))]))] s) (h : w_FnExactBandwidthBound F aG_1 = some r) : Run D σ (R7 r) (.run A7 []) s := by
  unfold w_FnExactBandwidthBound at h
  have h0 := hs
  refine .seq ?_
  refine run_reg ?_
  refine e_clr ?_
  refine e_end ?_
  refine g_box (.agg [(.int .i64 aG_1.1), (Enc.enc (aG_1.2 : List (Int × Int)))]) (rd_of (keep_clear (s := s) (pk := [1]) h0 rfl (map_agg (maps_cons rfl (maps_cons (Enc.map_enc _ (aG_1.2 : List (Int × Int))) maps_nil)))) rfl) (gone_clear (s := s) (pk := [1]) (t := 1) rfl) rfl ?_
  refine g_v0 (.bool false) rfl rfl ?_
  refine g_end ?_
  refine e_end ?_
  refine renew [(1, (.ref (.bx 1) 0 [] (.agg [(.int .i64 aG_1.1), (Enc.enc (aG_1.2 : List (Int × Int)))]))), (2, (.bool false))] ⟨rfl, rfl⟩ ?_
  rintro s ⟨h1, h2⟩
  refine .nsq ?_
  refine .seq ?_
  refine run_reg ?_
  refine e_end ?_
  refine g_v0 (.int .i64 1048576) rfl rfl ?_
  refine g_end ?_
  refine e_end ?_
  refine renew [(1, (.ref (.bx 1) 0 [] (.agg [(.int .i64 aG_1.1), (Enc.enc (aG_1.2 : List (Int × Int)))]))), (2, (.bool false)), (3, (.int .i64 1048576))] ⟨h1, h2, rfl⟩ ?_
  rintro s ⟨h1, h2, h3⟩
  refine .nsq ?_
  refine .seq ?_
  refine run_reg ?_
  refine e_end ?_
  refine g_v1 (t := 1) (u := (.ref (.bx 1) 0 [] (.agg [(.int .i64 aG_1.1), (Enc.enc (aG_1.2 : List (Int × Int)))]))) (.agg [(.int .i64 aG_1.1), (Enc.enc (aG_1.2 : List (Int × Int)))]) h1 rfl rfl ?_
  refine g_v1 (t := 3) (u := (.int .i64 1048576)) (.int .i64 1048576) h3 rfl rfl ?_
  obtain ⟨r_2, E_r_2, h⟩ := bind_some h
  refine g_call (m := 0) (al := false) (r := (Enc.enc (r_2 : Int))) [Enc.enc (aG_1 : (Int × (List (Int × Int)))), Enc.enc (1048576 : Int)] (ta_cons (v := (.agg [(.int .i64 aG_1.1), (Enc.enc (aG_1.2 : List (Int × Int)))])) rfl rfl (Enc.erase_enc (aG_1 : (Int × (List (Int × Int))))) (ta_cons (v := (.int .i64 1048576)) rfl rfl rfl ta_nil)) (H.c9 _ _ _ E_r_2) H.g9 rfl rfl rfl rfl ?_
  refine g_v1 (t := 11) (u := (.int .i64 r_2)) (.int .i64 r_2) rfl rfl rfl ?_
  refine g_end ?_
  refine e_end ?_
  refine renew [(1, (.ref (.bx 1) 0 [] (.agg [(.int .i64 aG_1.1), (Enc.enc (aG_1.2 : List (Int × Int)))]))), (2, (.bool false)), (3, (.int .i64 r_2))] ⟨h1, h2, rfl⟩ ?_
  rintro s ⟨h1, h2, h3⟩
  refine .nsq ?_
  refine .seq ?_
  refine .seq ?_
  refine run_reg ?_
  refine e_end ?_
  refine g_v1 (t := 3) (u := (.int .i64 r_2)) (.int .i64 r_2) h3 rfl rfl ?_
  refine g_v1 (t := 12) (u := (.int .i64 r_2)) (.bool (decide (r_2 < 0))) rfl rfl rfl ?_
  refine g_end ?_
  refine e_end ?_
  refine renew [(1, (.ref (.bx 1) 0 [] (.agg [(.int .i64 aG_1.1), (Enc.enc (aG_1.2 : List (Int × Int)))]))), (2, (.bool false)), (13, (.bool (decide (r_2 < 0))))] ⟨h1, h2, rfl⟩ ?_
  rintro s ⟨h1, h2, h13⟩
  refine .nsq ?_
  refine run_cond (t := decide (r_2 < 0)) h13 h (fun h => ?_) (fun h => ?_)
  · refine .seq ?_
    refine run_reg ?_
    refine e_end ?_
    refine g_v0 (.bool true) rfl rfl ?_
    refine g_end ?_
    refine e_end ?_
    refine renew [(1, (.ref (.bx 1) 0 [] (.agg [(.int .i64 aG_1.1), (Enc.enc (aG_1.2 : List (Int × Int)))]))), (2, (.bool true))] ⟨h1, rfl⟩ ?_
    rintro s ⟨h1, h2⟩
    refine .nsq ?_
    refine .ret ?_
    have hr := Option.some.inj h
    subst hr
    exact rrA (res_tmp h2) rfl
  · refine .skip ?_
    refine .nsq ?_
    refine .seq ?_
    refine run_reg ?_
    refine e_end ?_
    refine g_v1 (t := 1) (u := (.ref (.bx 1) 0 [] (.agg [(.int .i64 aG_1.1), (Enc.enc (aG_1.2 : List (Int × Int)))]))) (.agg [(.int .i64 aG_1.1), (Enc.enc (aG_1.2 : List (Int × Int)))]) h1 rfl rfl ?_
    obtain ⟨r_3, E_r_3, h⟩ := bind_some h
    refine g_call (m := 0) (al := true) (r := (Enc.enc (r_3 : (Int × (List (Int × Int)))))) [Enc.enc (aG_1 : (Int × (List (Int × Int))))] (ta_cons (v := (.agg [(.int .i64 aG_1.1), (Enc.enc (aG_1.2 : List (Int × Int)))])) rfl rfl (Enc.erase_enc (aG_1 : (Int × (List (Int × Int))))) ta_nil) (H.c11 _ _ E_r_3) H.g11 (hal_of (ht_cons (v := (.agg [(.int .i64 aG_1.1), (Enc.enc (aG_1.2 : List (Int × Int)))])) rfl rfl rfl ht_nil)) rfl rfl rfl ?_
    obtain ⟨r_4, E_r_4, h⟩ := bind_some h
    refine g_call (m := 0) (al := false) (r := (.tup [Enc.enc (r_4.1 : Int), Enc.enc (r_4.2 : Bool)])) [Enc.enc (r_3 : (Int × (List (Int × Int))))] (ta_cons (v := (.agg [(.int .i64 r_3.1), (Enc.enc (r_3.2 : List (Int × Int)))])) rfl rfl (Enc.erase_enc (r_3 : (Int × (List (Int × Int))))) ta_nil) (H.c25 _ _ E_r_4) H.g25 rfl rfl rfl rfl ?_
    refine g_v1 (t := 17) (u := (.tup [(.int .i64 r_4.1), (.bool r_4.2)])) (.tup [(.int .i64 r_4.1), (.bool r_4.2)]) rfl rfl rfl ?_
    refine g_v1 (t := 14) (u := (.tup [(.int .i64 r_4.1), (.bool r_4.2)])) (.int .i64 r_4.1) rfl rfl rfl ?_
    refine g_v1 (t := 14) (u := (.tup [(.int .i64 r_4.1), (.bool r_4.2)])) (.bool r_4.2) rfl rfl rfl ?_
    refine g_v1 (t := 18) (u := (.int .i64 r_4.1)) (.int .i64 r_4.1) rfl rfl rfl ?_
    refine g_v1 (t := 19) (u := (.bool r_4.2)) (.bool r_4.2) rfl rfl rfl ?_
    refine g_end ?_
    refine e_end ?_
    refine renew [(1, (.ref (.bx 1) 0 [] (.agg [(.int .i64 aG_1.1), (Enc.enc (aG_1.2 : List (Int × Int)))]))), (2, (.bool false)), (4, (.int .i64 r_4.1)), (5, (.bool r_4.2))] ⟨h1, h2, rfl, rfl⟩ ?_
    rintro s ⟨h1, h2, h4, h5⟩
    refine .nsq ?_
    refine .seq ?_
    refine run_reg ?_
    refine e_clr ?_
    refine e_end ?_
    refine g_v1 (t := 1) (u := (.ref (.bx 1) 0 [] (.agg [(.int .i64 aG_1.1), (Enc.enc (aG_1.2 : List (Int × Int)))]))) (.agg [(.int .i64 aG_1.1), (Enc.enc (aG_1.2 : List (Int × Int)))]) (keep_clear (s := s) (pk := [6]) h1 rfl (map_bx rfl (map_agg (maps_cons rfl (maps_cons (Enc.map_enc _ (aG_1.2 : List (Int × Int))) maps_nil))))) rfl rfl ?_
    obtain ⟨r_5, E_r_5, h⟩ := bind_some h
    refine g_call (m := 0) (al := true) (r := (Enc.enc (r_5 : (Int × (List (Int × Int)))))) [Enc.enc (aG_1 : (Int × (List (Int × Int))))] (ta_cons (v := (.agg [(.int .i64 aG_1.1), (Enc.enc (aG_1.2 : List (Int × Int)))])) rfl rfl (Enc.erase_enc (aG_1 : (Int × (List (Int × Int))))) ta_nil) (H.c11 _ _ E_r_5) H.g11 (hal_of (ht_cons (v := (.agg [(.int .i64 aG_1.1), (Enc.enc (aG_1.2 : List (Int × Int)))])) rfl rfl rfl ht_nil)) rfl rfl rfl ?_
    refine g_alloc (gone_clear (s := s) (pk := [6]) (t := 6) rfl) ?_
    refine g_store (.agg [(.int .i64 r_5.1), (Enc.enc (r_5.2 : List (Int × Int)))]) (rd_of rfl rfl) (rd_of rfl rfl) (by refine ⟨by decide, by decide, rfl, rfl, rfl, ?_⟩; first | rfl | simp [V.toks, V.tokss, Enc.toks_enc]) ?_
    refine g_end ?_
    refine e_end ?_
    refine renew [(1, (.ref (.bx 1) 0 [] (.agg [(.int .i64 aG_1.1), (Enc.enc (aG_1.2 : List (Int × Int)))]))), (2, (.bool false)), (4, (.int .i64 r_4.1)), (5, (.bool r_4.2)), (6, (.ref (.bx 6) 0 [] (.agg [(.int .i64 r_5.1), (Enc.enc (r_5.2 : List (Int × Int)))])))] ⟨(keep_mut (keep_clear (s := s) (pk := [6]) h1 rfl (map_bx rfl (map_agg (maps_cons rfl (maps_cons (Enc.map_enc _ (aG_1.2 : List (Int × Int))) maps_nil))))) (mut_ref_ne rfl rfl (mut_agg (muts_cons rfl (muts_cons (Enc.mut_enc _ _ _ _ (aG_1.2 : List (Int × Int))) rfl))))), (keep_mut (keep_clear (s := s) (pk := [6]) h2 rfl rfl) rfl), (keep_mut (keep_clear (s := s) (pk := [6]) h4 rfl rfl) rfl), (keep_mut (keep_clear (s := s) (pk := [6]) h5 rfl rfl) rfl), (keep_mut rfl rfl)⟩ ?_
    rintro s ⟨h1, h2, h4, h5, h6⟩
    refine .nsq ?_
    refine .seq ?_
    refine run_reg ?_
    refine e_end ?_
    refine g_v1 (t := 6) (u := (.ref (.bx 6) 0 [] (.agg [(.int .i64 r_5.1), (Enc.enc (r_5.2 : List (Int × Int)))]))) (.agg [(.int .i64 r_5.1), (Enc.enc (r_5.2 : List (Int × Int)))]) h6 rfl rfl ?_
    obtain ⟨r_6, E_r_6, h⟩ := bind_some h
    refine g_call (m := 0) (al := false) (r := (.tup [Enc.enc (r_6.1 : Int), Enc.enc (r_6.2 : Bool)])) [Enc.enc (r_5 : (Int × (List (Int × Int))))] (ta_cons (v := (.agg [(.int .i64 r_5.1), (Enc.enc (r_5.2 : List (Int × Int)))])) rfl rfl (Enc.erase_enc (r_5 : (Int × (List (Int × Int))))) ta_nil) (H.c26 _ _ E_r_6) H.g26 rfl rfl rfl rfl ?_
    refine g_v1 (t := 24) (u := (.tup [(.int .i64 r_6.1), (.bool r_6.2)])) (.tup [(.int .i64 r_6.1), (.bool r_6.2)]) rfl rfl rfl ?_
    refine g_v1 (t := 22) (u := (.tup [(.int .i64 r_6.1), (.bool r_6.2)])) (.int .i64 r_6.1) rfl rfl rfl ?_
    refine g_v1 (t := 22) (u := (.tup [(.int .i64 r_6.1), (.bool r_6.2)])) (.bool r_6.2) rfl rfl rfl ?_
    refine g_v1 (t := 25) (u := (.int .i64 r_6.1)) (.int .i64 r_6.1) rfl rfl rfl ?_
    refine g_v1 (t := 26) (u := (.bool r_6.2)) (.bool r_6.2) rfl rfl rfl ?_
    refine g_end ?_
    refine e_end ?_
    refine renew [(1, (.ref (.bx 1) 0 [] (.agg [(.int .i64 aG_1.1), (Enc.enc (aG_1.2 : List (Int × Int)))]))), (2, (.bool false)), (4, (.int .i64 r_4.1)), (5, (.bool r_4.2)), (6, (.ref (.bx 6) 0 [] (.agg [(.int .i64 r_5.1), (Enc.enc (r_5.2 : List (Int × Int)))]))), (7, (.int .i64 r_6.1)), (8, (.bool r_6.2))] ⟨h1, h2, h4, h5, h6, rfl, rfl⟩ ?_
    rintro s ⟨h1, h2, h4, h5, h6, h7, h8⟩
    refine .nsq ?_
    refine .seq ?_
    refine .seq ?_
    refine run_reg ?_
    refine e_end ?_
    refine g_v1 (t := 7) (u := (.int .i64 r_6.1)) (.int .i64 r_6.1) h7 rfl rfl ?_
    refine g_v1 (t := 4) (u := (.int .i64 r_4.1)) (.int .i64 r_4.1) h4 rfl rfl ?_
    refine g_v2 (t1 := 27) (t2 := 28) (u1 := (.int .i64 r_6.1)) (u2 := (.int .i64 r_4.1)) (.bool (r_6.1 != r_4.1)) rfl rfl rfl rfl ?_
    refine g_v1 (t := 29) (u := (.bool (r_6.1 != r_4.1))) (.bool (r_6.1 != r_4.1)) rfl rfl rfl ?_
    refine split_on (c := (r_6.1 != r_4.1)) h (fun hg4 h => ?_) (fun hg4 h => ?_)
    · refine g_no (Eq.trans (b := .bool (r_6.1 != r_4.1)) rfl (congrArg V.bool hg4)) ?_
      refine g_no (Eq.trans (b := .bool (r_6.1 != r_4.1)) rfl (congrArg V.bool hg4)) ?_
      refine g_no (Eq.trans (b := .bool (r_6.1 != r_4.1)) rfl (congrArg V.bool hg4)) ?_
      refine g_v2 (t1 := 30) (t2 := 33) (u1 := (.bool true)) (u2 := (.tup [])) (.bool true) (Eq.trans (b := .bool (r_6.1 != r_4.1)) rfl (congrArg V.bool hg4)) rfl rfl rfl ?_
      refine g_end ?_
      refine e_end ?_
      refine renew [(1, (.ref (.bx 1) 0 [] (.agg [(.int .i64 aG_1.1), (Enc.enc (aG_1.2 : List (Int × Int)))]))), (2, (.bool false)), (6, (.ref (.bx 6) 0 [] (.agg [(.int .i64 r_5.1), (Enc.enc (r_5.2 : List (Int × Int)))]))), (34, (.bool true))] ⟨h1, h2, h6, rfl⟩ ?_
      rintro s ⟨h1, h2, h6, h34⟩
      exact t_f7_j1 H aG_1 r_5 true _ ⟨h1, h2, h6, h34⟩ h
    · refine g_yes (Eq.trans (b := .bool (r_6.1 != r_4.1)) rfl (congrArg V.bool hg4)) (g_v1 (t := 8) (u := (.bool r_6.2)) (.bool r_6.2) h8 rfl rfl ?_)
      refine g_yes (Eq.trans (b := .bool (r_6.1 != r_4.1)) rfl (congrArg V.bool hg4)) (g_v1 (t := 5) (u := (.bool r_4.2)) (.bool r_4.2) h5 rfl rfl ?_)
      refine g_yes (Eq.trans (b := .bool (r_6.1 != r_4.1)) rfl (congrArg V.bool hg4)) (g_v2 (t1 := 31) (t2 := 32) (u1 := (.bool r_6.2)) (u2 := (.bool r_4.2)) (.bool (r_6.2 != r_4.2)) rfl rfl rfl rfl ?_)
      refine g_v2 (t1 := 30) (t2 := 33) (u1 := (.bool false)) (u2 := (.bool (r_6.2 != r_4.2))) (.bool (r_6.2 != r_4.2)) (Eq.trans (b := .bool (r_6.1 != r_4.1)) rfl (congrArg V.bool hg4)) rfl rfl rfl ?_
      refine g_end ?_
      refine e_end ?_
      refine renew [(1, (.ref (.bx 1) 0 [] (.agg [(.int .i64 aG_1.1), (Enc.enc (aG_1.2 : List (Int × Int)))]))), (2, (.bool false)), (6, (.ref (.bx 6) 0 [] (.agg [(.int .i64 r_5.1), (Enc.enc (r_5.2 : List (Int × Int)))]))), (34, (.bool (r_6.2 != r_4.2)))] ⟨h1, h2, h6, rfl⟩ ?_
      rintro s ⟨h1, h2, h6, h34⟩
      exact t_f7_j1 H aG_1 r_5 (r_6.2 != r_4.2) _ ⟨h1, h2, h6, h34⟩ h
end
def e7 (F : Nat) : Ent := ⟨7, dn1 (w_FnExactBandwidthBound F) (fun (r : Bool) => (Enc.enc (r : Bool))), 0, false⟩
theorem o7 {D : Den} {σ : Sig} {F : Nat} (hF : Fits2 Try.prog D σ) (H : H7 D σ F) : (e7 F).Ok Try.prog := by
  refine ⟨fun args r h => ?_, ⟨Try.f7, Try.func7, rfl, rfl⟩⟩
  obtain ⟨x0, y, rfl, hy, rfl⟩ := dn1_open h
  exact contract_run hF (by kernel_rfl) Try.func7 rfl c7 (show 1 ≤ Try.f7.ntmps by decide) (t7 H x0 _ rfl hy)
end Go.Zq
