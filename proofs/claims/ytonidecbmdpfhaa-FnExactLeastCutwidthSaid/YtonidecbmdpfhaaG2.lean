/- Functions of the program as typed functions, and that the machine runs as they say (part 2). No further condition. -/
import Derived.Test.YtonidecbmdpfhaaK3
import Derived.Test.YtonidecbmdpfhaaProg
import Derived.Test.YtonidecbmdpfhaaChecked
import Derived.KernelRfl
import Derived.Test.YtonidecbmdpfhaaG1
set_option linter.unusedVariables false
set_option linter.unusedSimpArgs false
/- Functions of the program, as typed functions, and that the machine runs as they say. -/
namespace Go.Zq
open Go.Proofs
/- cmp.Compare[int] -/
def A123_5 : AC := (AC.cond (O.t 12) (AC.seq (AC.reg [] [(I.mk (some 4) none false (X.v (A.mov (O.k (V.int IntKind.i64 (Int.ofNat 0))))))] []) AC.ret) AC.skip)
def A123_6 : AC := (AC.seq (AC.reg [] [(I.mk (some 4) none false (X.v (A.mov (O.k (V.int IntKind.i64 (Int.negSucc 0))))))] []) AC.ret)
def A123_4 : AC := (AC.cond (O.t 11) (AC.seq (AC.seq (AC.reg [] [(I.mk (some 12) none false (X.v (A.mov (O.t 6))))] []) A123_5) A123_6) AC.skip)
def A123_8 : AC := (AC.cond (O.t 13) (AC.seq (AC.reg [] [(I.mk (some 4) none false (X.v (A.mov (O.k (V.int IntKind.i64 (Int.ofNat 1))))))] []) AC.ret) AC.skip)
def A123_10 : AC := (AC.cond (O.t 16) (AC.seq (AC.reg [] [(I.mk (some 4) none false (X.v (A.mov (O.k (V.int IntKind.i64 (Int.negSucc 0))))))] []) AC.ret) AC.skip)
def A123_12 : AC := (AC.cond (O.t 19) (AC.seq (AC.reg [] [(I.mk (some 4) none false (X.v (A.mov (O.k (V.int IntKind.i64 (Int.ofNat 1))))))] []) AC.ret) AC.skip)
def A123_13 : AC := (AC.seq (AC.reg [] [(I.mk (some 4) none false (X.v (A.mov (O.k (V.int IntKind.i64 (Int.ofNat 0))))))] []) AC.ret)
def A123_11 : AC := (AC.seq (AC.seq (AC.reg [] [(I.mk (some 17) none false (X.v (A.mov (O.t 0)))), (I.mk (some 18) none false (X.v (A.mov (O.t 1)))), (I.mk (some 19) none false (X.v (A.bin BinOp.gtr (O.t 17) (O.t 18))))] []) A123_12) A123_13)
def A123_9 : AC := (AC.seq (AC.seq (AC.reg [] [(I.mk (some 14) none false (X.v (A.mov (O.t 0)))), (I.mk (some 15) none false (X.v (A.mov (O.t 1)))), (I.mk (some 16) none false (X.v (A.bin BinOp.lss (O.t 14) (O.t 15))))] []) A123_10) A123_11)
def A123_7 : AC := (AC.seq (AC.seq (AC.reg [] [(I.mk (some 13) none false (X.v (A.mov (O.t 6))))] []) A123_8) A123_9)
def A123_3 : AC := (AC.seq (AC.seq (AC.reg [] [(I.mk (some 11) none false (X.v (A.mov (O.t 5))))] []) A123_4) A123_7)
def A123_2 : AC := (AC.seq (AC.reg [] [(I.mk (some 9) none false (X.v (A.mov (O.t 1)))), (I.mk (some 10) none false (X.call (O.k (V.fn 126 [] [])) [(O.t 9)])), (I.mk (some 6) none false (X.v (A.mov (O.t 10))))] []) A123_3)
def A123_1 : AC := (AC.seq (AC.reg [] [(I.mk (some 7) none false (X.v (A.mov (O.t 0)))), (I.mk (some 8) none false (X.call (O.k (V.fn 126 [] [])) [(O.t 7)])), (I.mk (some 5) none false (X.v (A.mov (O.t 8))))] []) A123_2)
def A123 : AC := (AC.seq (AC.reg [] [(I.mk (some 4) none false (X.v (A.mov (O.k (V.int IntKind.i64 (Int.ofNat 0))))))] []) A123_1)
def an123 : List An := []
theorem c123 : cC Try.prog Try.f123.ntmps an123 (Try.f123.body.getD .skip) = some A123 := by kernel_rfl
structure H123 (D : Den) (σ : Sig) (F : Nat) : Prop where
  c126 : ∀ (x0 : Int) r, cmp_isNaN_int F x0 = some r → D 126 [Enc.enc x0] = some (Enc.enc (r : Bool))
  g126 : σ 126 = some (0, false)
abbrev R123 (r : Int) : (Nat → V) → Prop := RR Try.prog [.tmp 4] 0 false (Enc.enc (r : Int))
section
variable {D : Den} {σ : Sig} {F : Nat} {r : Int}
def cmp_Compare_int (F : Nat) (x_1 : Int) (y_2 : Int) : Option Int :=
  (cmp_isNaN_int F x_1).bind fun r_3 =>
  (cmp_isNaN_int F y_2).bind fun r_4 =>
  bif r_3 then
    bif r_4 then
      some 0
    else
      some (-1)
  else
    bif r_4 then
      some 1
    else
      bif decide (x_1 < y_2) then
        some (-1)
      else
        bif decide (x_1 > y_2) then
          some 1
        else
          some 0
theorem t123 (H : H123 D σ F) (x_1 : Int) (y_2 : Int) (s : Nat → V) (hs : Facts [(0, (.int .i64 x_1)), (1, (.int .i64 y_2))] s) (h : cmp_Compare_int F x_1 y_2 = some r) : Run D σ (R123 r) (.run A123 []) s := by
  unfold cmp_Compare_int at h
  obtain ⟨h0, h1⟩ := hs
  refine .seq ?_
  refine run_reg ?_
  refine e_end ?_
  refine g_v0 (.int .i64 0) rfl rfl ?_
  refine g_end ?_
  refine e_end ?_
  refine renew [(0, (.int .i64 x_1)), (1, (.int .i64 y_2)), (4, (.int .i64 0))] ⟨h0, h1, rfl⟩ ?_
  rintro s ⟨h0, h1, h4⟩
  refine .nsq ?_
  refine .seq ?_
  refine run_reg ?_
  refine e_end ?_
  refine g_v1 (t := 0) (u := (.int .i64 x_1)) (.int .i64 x_1) h0 rfl rfl ?_
  obtain ⟨r_3, E_r_3, h⟩ := bind_some h
  refine g_call (m := 0) (al := false) (r := (Enc.enc (r_3 : Bool))) [Enc.enc (x_1 : Int)] (ta_cons (v := (.int .i64 x_1)) rfl rfl rfl ta_nil) (H.c126 _ _ E_r_3) H.g126 rfl rfl rfl rfl ?_
  refine g_v1 (t := 8) (u := (.bool r_3)) (.bool r_3) rfl rfl rfl ?_
  refine g_end ?_
  refine e_end ?_
  refine renew [(0, (.int .i64 x_1)), (1, (.int .i64 y_2)), (4, (.int .i64 0)), (5, (.bool r_3))] ⟨h0, h1, h4, rfl⟩ ?_
  rintro s ⟨h0, h1, h4, h5⟩
  refine .nsq ?_
  refine .seq ?_
  refine run_reg ?_
  refine e_end ?_
  refine g_v1 (t := 1) (u := (.int .i64 y_2)) (.int .i64 y_2) h1 rfl rfl ?_
  obtain ⟨r_4, E_r_4, h⟩ := bind_some h
  refine g_call (m := 0) (al := false) (r := (Enc.enc (r_4 : Bool))) [Enc.enc (y_2 : Int)] (ta_cons (v := (.int .i64 y_2)) rfl rfl rfl ta_nil) (H.c126 _ _ E_r_4) H.g126 rfl rfl rfl rfl ?_
  refine g_v1 (t := 10) (u := (.bool r_4)) (.bool r_4) rfl rfl rfl ?_
  refine g_end ?_
  refine e_end ?_
  refine renew [(0, (.int .i64 x_1)), (1, (.int .i64 y_2)), (4, (.int .i64 0)), (5, (.bool r_3)), (6, (.bool r_4))] ⟨h0, h1, h4, h5, rfl⟩ ?_
  rintro s ⟨h0, h1, h4, h5, h6⟩
  refine .nsq ?_
  refine .seq ?_
  refine .seq ?_
  refine run_reg ?_
  refine e_end ?_
  refine g_v1 (t := 5) (u := (.bool r_3)) (.bool r_3) h5 rfl rfl ?_
  refine g_end ?_
  refine e_end ?_
  refine renew [(0, (.int .i64 x_1)), (1, (.int .i64 y_2)), (4, (.int .i64 0)), (6, (.bool r_4)), (11, (.bool r_3))] ⟨h0, h1, h4, h6, rfl⟩ ?_
  rintro s ⟨h0, h1, h4, h6, h11⟩
  refine .nsq ?_
  refine run_cond (t := r_3) h11 h (fun h => ?_) (fun h => ?_)
  · refine .seq ?_
    refine .seq ?_
    refine run_reg ?_
    refine e_end ?_
    refine g_v1 (t := 6) (u := (.bool r_4)) (.bool r_4) h6 rfl rfl ?_
    refine g_end ?_
    refine e_end ?_
    refine renew [(0, (.int .i64 x_1)), (1, (.int .i64 y_2)), (4, (.int .i64 0)), (6, (.bool r_4)), (12, (.bool r_4))] ⟨h0, h1, h4, h6, rfl⟩ ?_
    rintro s ⟨h0, h1, h4, h6, h12⟩
    refine .nsq ?_
    refine run_cond (t := r_4) h12 h (fun h => ?_) (fun h => ?_)
    · refine .seq ?_
      refine run_reg ?_
      refine e_end ?_
      refine g_v0 (.int .i64 0) rfl rfl ?_
      refine g_end ?_
      refine e_end ?_
      refine renew [(0, (.int .i64 x_1)), (1, (.int .i64 y_2)), (4, (.int .i64 0)), (6, (.bool r_4))] ⟨h0, h1, rfl, h6⟩ ?_
      rintro s ⟨h0, h1, h4, h6⟩
      refine .nsq ?_
      refine .ret ?_
      have hr := Option.some.inj h
      subst hr
      exact rrA (res_tmp h4) rfl
    · refine .skip ?_
      refine .nsq ?_
      refine .seq ?_
      refine run_reg ?_
      refine e_end ?_
      refine g_v0 (.int .i64 (-1)) rfl rfl ?_
      refine g_end ?_
      refine e_end ?_
      refine renew [(0, (.int .i64 x_1)), (1, (.int .i64 y_2)), (4, (.int .i64 (-1))), (6, (.bool r_4))] ⟨h0, h1, rfl, h6⟩ ?_
      rintro s ⟨h0, h1, h4, h6⟩
      refine .nsq ?_
      refine .ret ?_
      have hr := Option.some.inj h
      subst hr
      exact rrA (res_tmp h4) rfl
  · refine .skip ?_
    refine .nsq ?_
    refine .seq ?_
    refine .seq ?_
    refine run_reg ?_
    refine e_end ?_
    refine g_v1 (t := 6) (u := (.bool r_4)) (.bool r_4) h6 rfl rfl ?_
    refine g_end ?_
    refine e_end ?_
    refine renew [(0, (.int .i64 x_1)), (1, (.int .i64 y_2)), (4, (.int .i64 0)), (13, (.bool r_4))] ⟨h0, h1, h4, rfl⟩ ?_
    rintro s ⟨h0, h1, h4, h13⟩
    refine .nsq ?_
    refine run_cond (t := r_4) h13 h (fun h => ?_) (fun h => ?_)
    · refine .seq ?_
      refine run_reg ?_
      refine e_end ?_
      refine g_v0 (.int .i64 1) rfl rfl ?_
      refine g_end ?_
      refine e_end ?_
      refine renew [(0, (.int .i64 x_1)), (1, (.int .i64 y_2)), (4, (.int .i64 1))] ⟨h0, h1, rfl⟩ ?_
      rintro s ⟨h0, h1, h4⟩
      refine .nsq ?_
      refine .ret ?_
      have hr := Option.some.inj h
      subst hr
      exact rrA (res_tmp h4) rfl
    · refine .skip ?_
      refine .nsq ?_
      refine .seq ?_
      refine .seq ?_
      refine run_reg ?_
      refine e_end ?_
      refine g_v1 (t := 0) (u := (.int .i64 x_1)) (.int .i64 x_1) h0 rfl rfl ?_
      refine g_v1 (t := 1) (u := (.int .i64 y_2)) (.int .i64 y_2) h1 rfl rfl ?_
      refine g_v2 (t1 := 14) (t2 := 15) (u1 := (.int .i64 x_1)) (u2 := (.int .i64 y_2)) (.bool (decide (x_1 < y_2))) rfl rfl rfl rfl ?_
      refine g_end ?_
      refine e_end ?_
      refine renew [(0, (.int .i64 x_1)), (1, (.int .i64 y_2)), (4, (.int .i64 0)), (16, (.bool (decide (x_1 < y_2))))] ⟨h0, h1, h4, rfl⟩ ?_
      rintro s ⟨h0, h1, h4, h16⟩
      refine .nsq ?_
      refine run_cond (t := decide (x_1 < y_2)) h16 h (fun h => ?_) (fun h => ?_)
      · refine .seq ?_
        refine run_reg ?_
        refine e_end ?_
        refine g_v0 (.int .i64 (-1)) rfl rfl ?_
        refine g_end ?_
        refine e_end ?_
        refine renew [(0, (.int .i64 x_1)), (1, (.int .i64 y_2)), (4, (.int .i64 (-1)))] ⟨h0, h1, rfl⟩ ?_
        rintro s ⟨h0, h1, h4⟩
        refine .nsq ?_
        refine .ret ?_
        have hr := Option.some.inj h
        subst hr
        exact rrA (res_tmp h4) rfl
      · refine .skip ?_
        refine .nsq ?_
        refine .seq ?_
        refine .seq ?_
        refine run_reg ?_
        refine e_end ?_
        refine g_v1 (t := 0) (u := (.int .i64 x_1)) (.int .i64 x_1) h0 rfl rfl ?_
        refine g_v1 (t := 1) (u := (.int .i64 y_2)) (.int .i64 y_2) h1 rfl rfl ?_
        refine g_v2 (t1 := 17) (t2 := 18) (u1 := (.int .i64 x_1)) (u2 := (.int .i64 y_2)) (.bool (decide (x_1 > y_2))) rfl rfl rfl rfl ?_
        refine g_end ?_
        refine e_end ?_
        refine renew [(4, (.int .i64 0)), (19, (.bool (decide (x_1 > y_2))))] ⟨h4, rfl⟩ ?_
        rintro s ⟨h4, h19⟩
        refine .nsq ?_
        refine run_cond (t := decide (x_1 > y_2)) h19 h (fun h => ?_) (fun h => ?_)
        · refine .seq ?_
          refine run_reg ?_
          refine e_end ?_
          refine g_v0 (.int .i64 1) rfl rfl ?_
          refine g_end ?_
          refine e_end ?_
          refine renew [(4, (.int .i64 1))] rfl ?_
          rintro s h4
          refine .nsq ?_
          refine .ret ?_
          have hr := Option.some.inj h
          subst hr
          exact rrA (res_tmp h4) rfl
        · refine .skip ?_
          refine .nsq ?_
          refine .seq ?_
          refine run_reg ?_
          refine e_end ?_
          refine g_v0 (.int .i64 0) rfl rfl ?_
          refine g_end ?_
          refine e_end ?_
          refine renew [(4, (.int .i64 0))] rfl ?_
          rintro s h4
          refine .nsq ?_
          refine .ret ?_
          have hr := Option.some.inj h
          subst hr
          exact rrA (res_tmp h4) rfl
end
def e123 (F : Nat) : Ent := ⟨123, da (fun (x : (Int × Int × Unit)) => cmp_Compare_int F x.1 x.2.1) (fun (r : Int) => (Enc.enc (r : Int))), 0, false, selF []⟩
theorem p123 {F : Nat} {x0 : Int} {x1 : Int} {r : Int} (h : cmp_Compare_int F x0 x1 = some r) : (e123 F).den [Enc.enc x0, Enc.enc x1] = some (Enc.enc (r : Int)) := da_put (f := fun (x : (Int × Int × Unit)) => cmp_Compare_int F x.1 x.2.1) (t := fun (r : Int) => (Enc.enc (r : Int))) (x0, x1, ()) h
theorem o123 {D : Den} {σ : Sig} {F : Nat} (hF : Fits2 Try.prog D σ) (H : H123 D σ F) : (e123 F).Ok Try.prog := by
  refine ok_of (f := 123) (show unk 123 = 123 from rfl) (fun args r h => ?_) ⟨Try.f123, Try.func123, rfl, rfl⟩
  obtain ⟨⟨x0, x1, _⟩, y, rfl, hy, rfl⟩ := da_open h
  exact contract_run hF (by kernel_rfl) Try.func123 rfl c123 (show 2 ≤ Try.f123.ntmps by decide) (t123 H x0 x1 _ ⟨rfl, rfl⟩ hy)
/- slices.Compare[[]int,int] -/
def A101_5 : AC := (AC.cond (O.t 19) (AC.seq (AC.reg [] [(I.mk (some 4) none false (X.v (A.mov (O.k (V.int IntKind.i64 (Int.ofNat 1))))))] []) AC.ret) AC.skip)
def A101_9 : AC := (AC.cond (O.t 28) (AC.seq (AC.reg [] [(I.mk (some 29) none false (X.v (A.mov (O.t 8)))), (I.mk (some 4) none false (X.v (A.mov (O.t 29))))] []) AC.ret) AC.skip)
def A101_8 : AC := (AC.seq (AC.reg [] [(I.mk (some 27) none false (X.v (A.mov (O.t 8)))), (I.mk (some 28) none false (X.v (A.bin BinOp.neq (O.t 27) (O.k (V.int IntKind.i64 (Int.ofNat 0))))))] []) A101_9)
def A101_7 : AC := (AC.seq (AC.reg [] [(I.mk (some 24) none false (X.v (A.mov (O.t 6)))), (I.mk (some 25) none false (X.v (A.mov (O.t 7)))), (I.mk (some 26) none false (X.call (O.k (V.fn 123 [] [])) [(O.t 24), (O.t 25)])), (I.mk (some 8) none false (X.v (A.mov (O.t 26))))] []) A101_8)
def A101_6 : AC := (AC.seq (AC.reg [] [(I.mk (some 20) none false (X.v (A.mov (O.t 1)))), (I.mk (some 21) none false (X.v (A.mov (O.t 5)))), (I.mk (some 22) none false (X.v (A.idx (O.t 20) (O.t 21) 1))), (I.mk (some 23) none false (X.v (A.load Sh.s (O.t 22)))), (I.mk (some 7) none false (X.v (A.mov (O.t 23))))] []) A101_7)
def A101_4 : AC := (AC.seq (AC.seq (AC.reg [] [(I.mk (some 16) none false (X.v (A.mov (O.t 5)))), (I.mk (some 17) none false (X.v (A.mov (O.t 1)))), (I.mk (some 18) none false (X.v (A.len (O.t 17)))), (I.mk (some 19) none false (X.v (A.bin BinOp.geq (O.t 16) (O.t 18))))] []) A101_5) A101_6)
def A101_10 : AC := (AC.reg [] [(I.mk (some 30) none false (X.v (A.bin BinOp.add (O.t 11) (O.k (V.int IntKind.i64 (Int.ofNat 1)))))), (I.mk (some 11) none false (X.v (A.mov (O.t 30))))] [])
def A101_3 : AC := (AC.seq (AC.block 1 (AC.seq (AC.reg [] [(I.mk (some 13) none false (X.v (A.mov (O.t 11)))), (I.mk (some 14) none false (X.v (A.idx (O.t 9) (O.t 11) 1))), (I.mk (some 15) none false (X.v (A.load Sh.s (O.t 14)))), (I.mk (some 5) none false (X.v (A.mov (O.t 13)))), (I.mk (some 6) none false (X.v (A.mov (O.t 15))))] []) A101_4)) A101_10)
def A101_2 : AC := (AC.seq (AC.cond (O.t 12) AC.skip (AC.exit 0)) A101_3)
def A101_1 : AC := (AC.seq (AC.reg [] [(I.mk (some 12) none false (X.v (A.bin BinOp.lss (O.t 11) (O.t 10))))] []) A101_2)
def A101_12 : AC := (AC.cond (O.t 35) (AC.seq (AC.reg [] [(I.mk (some 4) none false (X.v (A.mov (O.k (V.int IntKind.i64 (Int.negSucc 0))))))] []) AC.ret) AC.skip)
def A101_13 : AC := (AC.seq (AC.reg [] [(I.mk (some 4) none false (X.v (A.mov (O.k (V.int IntKind.i64 (Int.ofNat 0))))))] []) AC.ret)
def A101_11 : AC := (AC.seq (AC.seq (AC.reg [] [(I.mk (some 31) none false (X.v (A.mov (O.t 0)))), (I.mk (some 32) none false (X.v (A.len (O.t 31)))), (I.mk (some 33) none false (X.v (A.mov (O.t 1)))), (I.mk (some 34) none false (X.v (A.len (O.t 33)))), (I.mk (some 35) none false (X.v (A.bin BinOp.lss (O.t 32) (O.t 34))))] []) A101_12) A101_13)
def A101_15 : AC := (AC.block 0 (AC.loop A101_1))
def A101_14 : AC := (AC.seq (AC.seq (AC.reg [] [(I.mk (some 9) none false (X.v (A.mov (O.t 0)))), (I.mk (some 10) none false (X.v (A.len (O.t 9)))), (I.mk (some 11) none false (X.v (A.mov (O.k (V.int IntKind.i64 (Int.ofNat 0))))))] []) A101_15) A101_11)
def A101 : AC := (AC.seq (AC.reg [] [(I.mk (some 4) none false (X.v (A.mov (O.k (V.int IntKind.i64 (Int.ofNat 0))))))] []) A101_14)
def an101 : List An := []
theorem c101 : cC Try.prog Try.f101.ntmps an101 (Try.f101.body.getD .skip) = some A101 := by kernel_rfl
structure H101 (D : Den) (σ : Sig) (F : Nat) : Prop where
  c123 : ∀ (x0 : Int) (x1 : Int) r, cmp_Compare_int F x0 x1 = some r → D 123 [Enc.enc x0, Enc.enc x1] = some (Enc.enc (r : Int))
  g123 : σ 123 = some (0, false)
abbrev R101 (r : Int) : (Nat → V) → Prop := RR Try.prog [.tmp 4] 0 false (Enc.enc (r : Int))
section
variable {D : Den} {σ : Sig} {F : Nat} {r : Int}
def slices_Compare_l1 (F : Nat) (s1_1 : (List Int)) (s2_2 : (List Int))  : Nat → Int → Option Int
  | 0, _ => none
  | k + 1, t11_6 =>
    bif decide (t11_6 < (s1_1.length : Int)) then
      (idx s1_1 t11_6).bind fun e_10 =>
      bif decide (t11_6 ≥ (s2_2.length : Int)) then
        some 1
      else
        (idx s2_2 t11_6).bind fun e_11 =>
        (cmp_Compare_int F e_10 e_11).bind fun r_12 =>
        bif (r_12 != 0) then
          some r_12
        else
          (slices_Compare_l1 F s1_1 s2_2 k) (w64 (t11_6 + 1))
    else
      bif decide ((s1_1.length : Int) < (s2_2.length : Int)) then
        some (-1)
      else
        some 0
theorem t_f101_l1 (H : H101 D σ F) (s1_1 : (List Int)) (s2_2 : (List Int))  : ∀ (k : Nat) (t11_6 : Int) (s : Nat → V), Facts [(0, (Enc.enc (s1_1 : List Int))), (1, (Enc.enc (s2_2 : List Int))), (4, (.int .i64 0)), (9, (Enc.enc (s1_1 : List Int))), (10, (.int .i64 (s1_1.length : Int))), (11, (.int .i64 t11_6))] s → slices_Compare_l1 F s1_1 s2_2 k t11_6 = some r → Run D σ (R101 r) (.run A101_1 [.lp A101_1, .bk 0, .sq A101_11]) s := by
  intro k
  induction k with
  | zero => intro t11_6 s _ h; exact nomatch (h : (none : Option _) = some r)
  | succ k ih =>
    intro t11_6 s hs h
    rw [slices_Compare_l1] at h
    obtain ⟨h0, h1, h4, h9, h10, h11⟩ := hs
    refine .seq ?_
    refine run_reg ?_
    refine e_end ?_
    refine g_v2 (t1 := 11) (t2 := 10) (u1 := (.int .i64 t11_6)) (u2 := (.int .i64 (s1_1.length : Int))) (.bool (decide (t11_6 < (s1_1.length : Int)))) h11 h10 rfl rfl ?_
    refine g_end ?_
    refine e_end ?_
    refine renew [(0, (Enc.enc (s1_1 : List Int))), (1, (Enc.enc (s2_2 : List Int))), (4, (.int .i64 0)), (9, (Enc.enc (s1_1 : List Int))), (10, (.int .i64 (s1_1.length : Int))), (11, (.int .i64 t11_6)), (12, (.bool (decide (t11_6 < (s1_1.length : Int)))))] ⟨h0, h1, h4, h9, h10, h11, rfl⟩ ?_
    rintro s ⟨h0, h1, h4, h9, h10, h11, h12⟩
    refine .nsq ?_
    refine .seq ?_
    refine run_cond (t := decide (t11_6 < (s1_1.length : Int))) h12 h (fun h => ?_) (fun h => ?_)
    · refine .skip ?_
      refine .nsq ?_
      refine .seq ?_
      refine .block ?_
      refine .seq ?_
      refine run_reg ?_
      refine e_end ?_
      refine g_v1 (t := 11) (u := (.int .i64 t11_6)) (.int .i64 t11_6) h11 rfl rfl ?_
      obtain ⟨e_10, E_e_10, h⟩ := bind_some h
      refine g_v (.ref .sh 0 [] (.int .i64 e_10)) (ev_idx (t := .sh) (lo := 0) (xs := s1_1) h9 h11 E_e_10 rfl rfl) ?_
      refine g_v1 (t := 14) (u := (.ref .sh 0 [] (.int .i64 e_10))) (.int .i64 e_10) rfl rfl rfl ?_
      refine g_v1 (t := 13) (u := (.int .i64 t11_6)) (.int .i64 t11_6) rfl rfl rfl ?_
      refine g_v1 (t := 15) (u := (.int .i64 e_10)) (.int .i64 e_10) rfl rfl rfl ?_
      refine g_end ?_
      refine e_end ?_
      refine renew [(0, (Enc.enc (s1_1 : List Int))), (1, (Enc.enc (s2_2 : List Int))), (4, (.int .i64 0)), (5, (.int .i64 t11_6)), (6, (.int .i64 e_10)), (9, (Enc.enc (s1_1 : List Int))), (10, (.int .i64 (s1_1.length : Int))), (11, (.int .i64 t11_6))] ⟨h0, h1, h4, rfl, rfl, h9, h10, h11⟩ ?_
      rintro s ⟨h0, h1, h4, h5, h6, h9, h10, h11⟩
      refine .nsq ?_
      refine .seq ?_
      refine .seq ?_
      refine run_reg ?_
      refine e_end ?_
      refine g_v1 (t := 5) (u := (.int .i64 t11_6)) (.int .i64 t11_6) h5 rfl rfl ?_
      refine g_v1 (t := 1) (u := (Enc.enc (s2_2 : List Int))) (Enc.enc (s2_2 : List Int)) h1 rfl rfl ?_
      refine g_v (.int .i64 (s2_2.length : Int)) (ev_len (xs := s2_2) rfl) ?_
      refine g_v2 (t1 := 16) (t2 := 18) (u1 := (.int .i64 t11_6)) (u2 := (.int .i64 (s2_2.length : Int))) (.bool (decide (t11_6 ≥ (s2_2.length : Int)))) rfl rfl rfl rfl ?_
      refine g_end ?_
      refine e_end ?_
      refine renew [(0, (Enc.enc (s1_1 : List Int))), (1, (Enc.enc (s2_2 : List Int))), (4, (.int .i64 0)), (5, (.int .i64 t11_6)), (6, (.int .i64 e_10)), (9, (Enc.enc (s1_1 : List Int))), (10, (.int .i64 (s1_1.length : Int))), (11, (.int .i64 t11_6)), (19, (.bool (decide (t11_6 ≥ (s2_2.length : Int)))))] ⟨h0, h1, h4, h5, h6, h9, h10, h11, rfl⟩ ?_
      rintro s ⟨h0, h1, h4, h5, h6, h9, h10, h11, h19⟩
      refine .nsq ?_
      refine run_cond (t := decide (t11_6 ≥ (s2_2.length : Int))) h19 h (fun h => ?_) (fun h => ?_)
      · refine .seq ?_
        refine run_reg ?_
        refine e_end ?_
        refine g_v0 (.int .i64 1) rfl rfl ?_
        refine g_end ?_
        refine e_end ?_
        refine renew [(0, (Enc.enc (s1_1 : List Int))), (1, (Enc.enc (s2_2 : List Int))), (4, (.int .i64 1)), (5, (.int .i64 t11_6)), (6, (.int .i64 e_10)), (9, (Enc.enc (s1_1 : List Int))), (10, (.int .i64 (s1_1.length : Int))), (11, (.int .i64 t11_6))] ⟨h0, h1, rfl, h5, h6, h9, h10, h11⟩ ?_
        rintro s ⟨h0, h1, h4, h5, h6, h9, h10, h11⟩
        refine .nsq ?_
        refine .ret ?_
        have hr := Option.some.inj h
        subst hr
        exact rrA (res_tmp h4) rfl
      · refine .skip ?_
        refine .nsq ?_
        refine .seq ?_
        refine run_reg ?_
        refine e_end ?_
        refine g_v1 (t := 1) (u := (Enc.enc (s2_2 : List Int))) (Enc.enc (s2_2 : List Int)) h1 rfl rfl ?_
        refine g_v1 (t := 5) (u := (.int .i64 t11_6)) (.int .i64 t11_6) h5 rfl rfl ?_
        obtain ⟨e_11, E_e_11, h⟩ := bind_some h
        refine g_v (.ref .sh 0 [] (.int .i64 e_11)) (ev_idx (t := .sh) (lo := 0) (xs := s2_2) rfl rfl E_e_11 rfl rfl) ?_
        refine g_v1 (t := 22) (u := (.ref .sh 0 [] (.int .i64 e_11))) (.int .i64 e_11) rfl rfl rfl ?_
        refine g_v1 (t := 23) (u := (.int .i64 e_11)) (.int .i64 e_11) rfl rfl rfl ?_
        refine g_end ?_
        refine e_end ?_
        refine renew [(0, (Enc.enc (s1_1 : List Int))), (1, (Enc.enc (s2_2 : List Int))), (4, (.int .i64 0)), (6, (.int .i64 e_10)), (7, (.int .i64 e_11)), (9, (Enc.enc (s1_1 : List Int))), (10, (.int .i64 (s1_1.length : Int))), (11, (.int .i64 t11_6))] ⟨h0, h1, h4, h6, rfl, h9, h10, h11⟩ ?_
        rintro s ⟨h0, h1, h4, h6, h7, h9, h10, h11⟩
        refine .nsq ?_
        refine .seq ?_
        refine run_reg ?_
        refine e_end ?_
        refine g_v1 (t := 6) (u := (.int .i64 e_10)) (.int .i64 e_10) h6 rfl rfl ?_
        refine g_v1 (t := 7) (u := (.int .i64 e_11)) (.int .i64 e_11) h7 rfl rfl ?_
        obtain ⟨r_12, E_r_12, h⟩ := bind_some h
        refine g_call (m := 0) (al := false) (r := (Enc.enc (r_12 : Int))) [Enc.enc (e_10 : Int), Enc.enc (e_11 : Int)] (ta_cons (v := (.int .i64 e_10)) rfl rfl rfl (ta_cons (v := (.int .i64 e_11)) rfl rfl rfl ta_nil)) (H.c123 _ _ _ E_r_12) H.g123 rfl rfl rfl rfl ?_
        refine g_v1 (t := 26) (u := (.int .i64 r_12)) (.int .i64 r_12) rfl rfl rfl ?_
        refine g_end ?_
        refine e_end ?_
        refine renew [(0, (Enc.enc (s1_1 : List Int))), (1, (Enc.enc (s2_2 : List Int))), (4, (.int .i64 0)), (8, (.int .i64 r_12)), (9, (Enc.enc (s1_1 : List Int))), (10, (.int .i64 (s1_1.length : Int))), (11, (.int .i64 t11_6))] ⟨h0, h1, h4, rfl, h9, h10, h11⟩ ?_
        rintro s ⟨h0, h1, h4, h8, h9, h10, h11⟩
        refine .nsq ?_
        refine .seq ?_
        refine run_reg ?_
        refine e_end ?_
        refine g_v1 (t := 8) (u := (.int .i64 r_12)) (.int .i64 r_12) h8 rfl rfl ?_
        refine g_v1 (t := 27) (u := (.int .i64 r_12)) (.bool (r_12 != 0)) rfl rfl rfl ?_
        refine g_end ?_
        refine e_end ?_
        refine renew [(0, (Enc.enc (s1_1 : List Int))), (1, (Enc.enc (s2_2 : List Int))), (4, (.int .i64 0)), (8, (.int .i64 r_12)), (9, (Enc.enc (s1_1 : List Int))), (10, (.int .i64 (s1_1.length : Int))), (11, (.int .i64 t11_6)), (28, (.bool (r_12 != 0)))] ⟨h0, h1, h4, h8, h9, h10, h11, rfl⟩ ?_
        rintro s ⟨h0, h1, h4, h8, h9, h10, h11, h28⟩
        refine .nsq ?_
        refine run_cond (t := (r_12 != 0)) h28 h (fun h => ?_) (fun h => ?_)
        · refine .seq ?_
          refine run_reg ?_
          refine e_end ?_
          refine g_v1 (t := 8) (u := (.int .i64 r_12)) (.int .i64 r_12) h8 rfl rfl ?_
          refine g_v1 (t := 29) (u := (.int .i64 r_12)) (.int .i64 r_12) rfl rfl rfl ?_
          refine g_end ?_
          refine e_end ?_
          refine renew [(0, (Enc.enc (s1_1 : List Int))), (1, (Enc.enc (s2_2 : List Int))), (4, (.int .i64 r_12)), (9, (Enc.enc (s1_1 : List Int))), (10, (.int .i64 (s1_1.length : Int))), (11, (.int .i64 t11_6))] ⟨h0, h1, rfl, h9, h10, h11⟩ ?_
          rintro s ⟨h0, h1, h4, h9, h10, h11⟩
          refine .nsq ?_
          refine .ret ?_
          have hr := Option.some.inj h
          subst hr
          exact rrA (res_tmp h4) rfl
        · refine .skip ?_
          refine .nbk ?_
          refine .nsq ?_
          refine run_reg ?_
          refine e_end ?_
          refine g_v1 (t := 11) (u := (.int .i64 t11_6)) (.int .i64 (w64 (t11_6 + 1))) h11 rfl rfl ?_
          refine g_v1 (t := 30) (u := (.int .i64 (w64 (t11_6 + 1)))) (.int .i64 (w64 (t11_6 + 1))) rfl rfl rfl ?_
          refine g_end ?_
          refine e_end ?_
          refine renew [(0, (Enc.enc (s1_1 : List Int))), (1, (Enc.enc (s2_2 : List Int))), (4, (.int .i64 0)), (9, (Enc.enc (s1_1 : List Int))), (10, (.int .i64 (s1_1.length : Int))), (11, (.int .i64 (w64 (t11_6 + 1))))] ⟨h0, h1, h4, h9, h10, rfl⟩ ?_
          rintro s ⟨h0, h1, h4, h9, h10, h11⟩
          refine .nlp ?_
          exact ih (w64 (t11_6 + 1)) _ ⟨h0, h1, h4, h9, h10, h11⟩ h
    · refine .exit ?_
      refine .esq ?_
      refine .elp ?_
      refine .ebk ?_
      refine .nsq ?_
      refine .seq ?_
      refine .seq ?_
      refine run_reg ?_
      refine e_end ?_
      refine g_v1 (t := 0) (u := (Enc.enc (s1_1 : List Int))) (Enc.enc (s1_1 : List Int)) h0 rfl rfl ?_
      refine g_v (.int .i64 (s1_1.length : Int)) (ev_len (xs := s1_1) rfl) ?_
      refine g_v1 (t := 1) (u := (Enc.enc (s2_2 : List Int))) (Enc.enc (s2_2 : List Int)) h1 rfl rfl ?_
      refine g_v (.int .i64 (s2_2.length : Int)) (ev_len (xs := s2_2) rfl) ?_
      refine g_v2 (t1 := 32) (t2 := 34) (u1 := (.int .i64 (s1_1.length : Int))) (u2 := (.int .i64 (s2_2.length : Int))) (.bool (decide ((s1_1.length : Int) < (s2_2.length : Int)))) rfl rfl rfl rfl ?_
      refine g_end ?_
      refine e_end ?_
      refine renew [(4, (.int .i64 0)), (35, (.bool (decide ((s1_1.length : Int) < (s2_2.length : Int)))))] ⟨h4, rfl⟩ ?_
      rintro s ⟨h4, h35⟩
      refine .nsq ?_
      refine run_cond (t := decide ((s1_1.length : Int) < (s2_2.length : Int))) h35 h (fun h => ?_) (fun h => ?_)
      · refine .seq ?_
        refine run_reg ?_
        refine e_end ?_
        refine g_v0 (.int .i64 (-1)) rfl rfl ?_
        refine g_end ?_
        refine e_end ?_
        refine renew [(4, (.int .i64 (-1)))] rfl ?_
        rintro s h4
        refine .nsq ?_
        refine .ret ?_
        have hr := Option.some.inj h
        subst hr
        exact rrA (res_tmp h4) rfl
      · refine .skip ?_
        refine .nsq ?_
        refine .seq ?_
        refine run_reg ?_
        refine e_end ?_
        refine g_v0 (.int .i64 0) rfl rfl ?_
        refine g_end ?_
        refine e_end ?_
        refine renew [(4, (.int .i64 0))] rfl ?_
        rintro s h4
        refine .nsq ?_
        refine .ret ?_
        have hr := Option.some.inj h
        subst hr
        exact rrA (res_tmp h4) rfl
def slices_Compare (F : Nat) (s1_1 : (List Int)) (s2_2 : (List Int)) : Option Int :=
  slices_Compare_l1 F s1_1 s2_2 F 0
theorem t101 (H : H101 D σ F) (s1_1 : (List Int)) (s2_2 : (List Int)) (s : Nat → V) (hs : Facts [(0, (Enc.enc (s1_1 : List Int))), (1, (Enc.enc (s2_2 : List Int)))] s) (h : slices_Compare F s1_1 s2_2 = some r) : Run D σ (R101 r) (.run A101 []) s := by
  unfold slices_Compare at h
  obtain ⟨h0, h1⟩ := hs
  refine .seq ?_
  refine run_reg ?_
  refine e_end ?_
  refine g_v0 (.int .i64 0) rfl rfl ?_
  refine g_end ?_
  refine e_end ?_
  refine renew [(0, (Enc.enc (s1_1 : List Int))), (1, (Enc.enc (s2_2 : List Int))), (4, (.int .i64 0))] ⟨h0, h1, rfl⟩ ?_
  rintro s ⟨h0, h1, h4⟩
  refine .nsq ?_
  refine .seq ?_
  refine .seq ?_
  refine run_reg ?_
  refine e_end ?_
  refine g_v1 (t := 0) (u := (Enc.enc (s1_1 : List Int))) (Enc.enc (s1_1 : List Int)) h0 rfl rfl ?_
  refine g_v (.int .i64 (s1_1.length : Int)) (ev_len (xs := s1_1) rfl) ?_
  refine g_v0 (.int .i64 0) rfl rfl ?_
  refine g_end ?_
  refine e_end ?_
  refine renew [(0, (Enc.enc (s1_1 : List Int))), (1, (Enc.enc (s2_2 : List Int))), (4, (.int .i64 0)), (9, (Enc.enc (s1_1 : List Int))), (10, (.int .i64 (s1_1.length : Int))), (11, (.int .i64 0))] ⟨h0, h1, h4, rfl, rfl, rfl⟩ ?_
  rintro s ⟨h0, h1, h4, h9, h10, h11⟩
  refine .nsq ?_
  refine .block ?_
  refine .loop ?_
  exact t_f101_l1 H s1_1 s2_2 F 0 _ ⟨h0, h1, h4, h9, h10, h11⟩ h
end
def e101 (F : Nat) : Ent := ⟨101, da (fun (x : ((List Int) × (List Int) × Unit)) => slices_Compare F x.1 x.2.1) (fun (r : Int) => (Enc.enc (r : Int))), 0, false, selF []⟩
theorem p101 {F : Nat} {x0 : (List Int)} {x1 : (List Int)} {r : Int} (h : slices_Compare F x0 x1 = some r) : (e101 F).den [Enc.enc x0, Enc.enc x1] = some (Enc.enc (r : Int)) := da_put (f := fun (x : ((List Int) × (List Int) × Unit)) => slices_Compare F x.1 x.2.1) (t := fun (r : Int) => (Enc.enc (r : Int))) (x0, x1, ()) h
theorem o101 {D : Den} {σ : Sig} {F : Nat} (hF : Fits2 Try.prog D σ) (H : H101 D σ F) : (e101 F).Ok Try.prog := by
  refine ok_of (f := 101) (show unk 101 = 101 from rfl) (fun args r h => ?_) ⟨Try.f101, Try.func101, rfl, rfl⟩
  obtain ⟨⟨x0, x1, _⟩, y, rfl, hy, rfl⟩ := da_open h
  exact contract_run hF (by kernel_rfl) Try.func101 rfl c101 (show 2 ≤ Try.f101.ntmps by decide) (t101 H x0 x1 _ ⟨rfl, rfl⟩ hy)
/- loop.example/g01109/impl.IsGraph -/
def A51_5 : AC := (AC.cond (O.t 48) (AC.seq (AC.reg [] [(I.mk (some 2) none false (X.v (A.mov (O.k (V.bool false)))))] []) AC.ret) AC.skip)
def A51_4 : AC := (AC.seq (AC.reg [] [(I.mk (some 17) none false (X.v (A.idxA (O.t 4) (O.k (V.int IntKind.i64 (Int.ofNat 0))) 2 1))), (I.mk (some 18) none false (X.v (A.load Sh.s (O.t 17)))), (I.mk (some 19) none false (X.v (A.bin BinOp.lss (O.t 18) (O.k (V.int IntKind.i64 (Int.ofNat 0)))))), (I.mk (some 20) none false (X.v (A.mov (O.t 19)))), (I.mk (some 21) (some (20, false)) false (X.v (A.idxA (O.t 4) (O.k (V.int IntKind.i64 (Int.ofNat 0))) 2 1))), (I.mk (some 22) (some (20, false)) false (X.v (A.load Sh.s (O.t 21)))), (I.mk (some 23) (some (20, false)) false (X.v (A.idxA (O.t 4) (O.k (V.int IntKind.i64 (Int.ofNat 1))) 2 1))), (I.mk (some 24) (some (20, false)) false (X.v (A.load Sh.s (O.t 23)))), (I.mk (some 25) (some (20, false)) false (X.v (A.bin BinOp.geq (O.t 22) (O.t 24)))), (I.mk (some 26) none false (X.v (A.pick (O.t 20) (O.k (V.bool true)) (O.t 25)))), (I.mk (some 27) none false (X.v (A.mov (O.t 26)))), (I.mk (some 28) (some (27, false)) false (X.v (A.idxA (O.t 4) (O.k (V.int IntKind.i64 (Int.ofNat 1))) 2 1))), (I.mk (some 29) (some (27, false)) false (X.v (A.load Sh.s (O.t 28)))), (I.mk (some 30) (some (27, false)) false (X.v (A.fld (O.t 1) 0 0))), (I.mk (some 31) (some (27, false)) false (X.v (A.load Sh.s (O.t 30)))), (I.mk (some 32) (some (27, false)) false (X.v (A.bin BinOp.geq (O.t 29) (O.t 31)))), (I.mk (some 33) none false (X.v (A.pick (O.t 27) (O.k (V.bool true)) (O.t 32)))), (I.mk (some 34) none false (X.v (A.mov (O.t 33)))), (I.mk (some 35) (some (34, false)) false (X.v (A.mov (O.t 3)))), (I.mk (some 36) (some (34, false)) false (X.v (A.bin BinOp.gtr (O.t 35) (O.k (V.int IntKind.i64 (Int.ofNat 0)))))), (I.mk (some 37) (some (34, false)) false (X.v (A.mov (O.t 36)))), (I.mk (some 38) (some (37, true)) false (X.v (A.fld (O.t 1) 1 1))), (I.mk (some 39) (some (37, true)) false (X.v (A.load Sh.p (O.t 38)))), (I.mk (some 40) (some (37, true)) false (X.v (A.mov (O.t 3)))), (I.mk (some 41) (some (37, true)) false (X.v (A.bin BinOp.sub (O.t 40) (O.k (V.int IntKind.i64 (Int.ofNat 1)))))), (I.mk (some 42) (some (37, true)) false (X.v (A.idx (O.t 39) (O.t 41) 2))), (I.mk (some 43) (some (37, true)) false (X.v (A.sliceA (O.t 42) 2 Sh.s))), (I.mk (some 44) (some (37, true)) false (X.v (A.sliceA (O.t 4) 2 Sh.s))), (I.mk (some 45) (some (37, true)) false (X.call (O.k (V.fn 101 [] [])) [(O.t 43), (O.t 44)])), (I.mk (some 46) (some (37, true)) false (X.v (A.bin BinOp.geq (O.t 45) (O.k (V.int IntKind.i64 (Int.ofNat 0)))))), (I.mk (some 47) (some (34, false)) false (X.v (A.pick (O.t 37) (O.t 46) (O.k (V.bool false))))), (I.mk (some 48) none false (X.v (A.pick (O.t 34) (O.k (V.bool true)) (O.t 47))))] []) A51_5)
def A51_6 : AC := (AC.reg [] [(I.mk (some 49) none false (X.v (A.bin BinOp.add (O.t 12) (O.k (V.int IntKind.i64 (Int.ofNat 1)))))), (I.mk (some 12) none false (X.v (A.mov (O.t 49))))] [])
def A51_3 : AC := (AC.seq (AC.block 1 (AC.seq (AC.reg [.clr [4]] [(I.mk (some 14) none false (X.v (A.mov (O.t 12)))), (I.mk (some 15) none false (X.v (A.idx (O.t 10) (O.t 12) 2))), (I.mk (some 16) none false (X.v (A.load (Sh.ag [Sh.s, Sh.s]) (O.t 15)))), (I.mk (some 4) none false (X.alloc (V.agg [(V.int IntKind.i64 (Int.ofNat 0)), (V.int IntKind.i64 (Int.ofNat 0))]))), (I.mk (some 3) none false (X.v (A.mov (O.t 14)))), (I.mk none none false (X.store (Sh.ag [Sh.s, Sh.s]) (O.t 4) (O.t 16)))] []) A51_4)) A51_6)
def A51_2 : AC := (AC.seq (AC.cond (O.t 13) AC.skip (AC.exit 0)) A51_3)
def A51_1 : AC := (AC.seq (AC.reg [] [(I.mk (some 13) none false (X.v (A.bin BinOp.lss (O.t 12) (O.t 11))))] []) A51_2)
def A51_7 : AC := (AC.seq (AC.reg [] [(I.mk (some 2) none false (X.v (A.mov (O.k (V.bool true)))))] []) AC.ret)
def A51_9 : AC := (AC.cond (O.t 8) (AC.seq (AC.reg [] [(I.mk (some 2) none false (X.v (A.mov (O.k (V.bool false)))))] []) AC.ret) AC.skip)
def A51_11 : AC := (AC.block 0 (AC.loop A51_1))
def A51_10 : AC := (AC.seq (AC.seq (AC.reg [] [(I.mk (some 9) none false (X.v (A.fld (O.t 1) 1 1))), (I.mk (some 10) none false (X.v (A.load Sh.p (O.t 9)))), (I.mk (some 11) none false (X.v (A.len (O.t 10)))), (I.mk (some 12) none false (X.v (A.mov (O.k (V.int IntKind.i64 (Int.ofNat 0))))))] []) A51_11) A51_7)
def A51_8 : AC := (AC.seq (AC.seq (AC.reg [] [(I.mk (some 5) none false (X.v (A.fld (O.t 1) 0 0))), (I.mk (some 6) none false (X.v (A.load Sh.s (O.t 5)))), (I.mk (some 7) none false (X.call (O.k (V.fn 100 [] [])) [(O.t 6), (O.k (V.int IntKind.i64 (Int.ofNat 0))), (O.k (V.int IntKind.i64 (Int.ofNat 8)))])), (I.mk (some 8) none false (X.v (A.un UnOp.not (O.t 7))))] []) A51_9) A51_10)
def A51 : AC := (AC.seq (AC.reg [.clr [1]] [(I.mk (some 1) none false (X.box (O.t 0))), (I.mk (some 2) none false (X.v (A.mov (O.k (V.bool false)))))] []) A51_8)
def an51 : List An := [{ id := 0, pre := [.clr [1]], ep := [], lin := [], sp := [] }, { id := 5, pre := [.clr [4]], ep := [], lin := [], sp := [] }]
theorem c51 : cC Try.prog Try.f51.ntmps an51 (Try.f51.body.getD .skip) = some A51 := by kernel_rfl
structure H51 (D : Den) (σ : Sig) (F : Nat) : Prop where
  c100 : ∀ (x0 : Int) (x1 : Int) (x2 : Int) r, i_within F x0 x1 x2 = some r → D 100 [Enc.enc x0, Enc.enc x1, Enc.enc x2] = some (Enc.enc (r : Bool))
  g100 : σ 100 = some (0, false)
  c101 : ∀ (x0 : (List Int)) (x1 : (List Int)) r, slices_Compare F x0 x1 = some r → D 101 [Enc.enc x0, Enc.enc x1] = some (Enc.enc (r : Int))
  g101 : σ 101 = some (0, false)
abbrev R51 (r : Bool) : (Nat → V) → Prop := RR Try.prog [.tmp 2] 0 false (Enc.enc (r : Bool))
section
variable {D : Den} {σ : Sig} {F : Nat} {r : Bool}
def i_IsGraph_j1 (F : Nat) (g_1 : (Int × (List (Int × Int)))) (t12_9 : Int) (c1 : Int → Option Bool) (t48_19 : Bool) : Option Bool :=
  bif t48_19 then
    some false
  else
    c1 (w64 (t12_9 + 1))
theorem t_f51_j1 (H : H51 D σ F) (g_1 : (Int × (List (Int × Int)))) (t12_9 : Int) (c1 : Int → Option Bool) (Hc1 : ∀ (t12_9 : Int) (s : Nat → V), Facts [(1, (.ref (.bx 1) 0 [] (.agg [(.int .i64 g_1.1), (Enc.enc (g_1.2 : List (Int × Int)))]))), (2, (.bool false)), (10, (Enc.enc (g_1.2 : List (Int × Int)))), (11, (.int .i64 (g_1.2.length : Int))), (12, (.int .i64 t12_9))] s → c1 t12_9 = some r → Run D σ (R51 r) (.run A51_1 [.lp A51_1, .bk 0, .sq A51_7]) s) (t48_19 : Bool) (s : Nat → V) (hs : Facts [(1, (.ref (.bx 1) 0 [] (.agg [(.int .i64 g_1.1), (Enc.enc (g_1.2 : List (Int × Int)))]))), (2, (.bool false)), (10, (Enc.enc (g_1.2 : List (Int × Int)))), (11, (.int .i64 (g_1.2.length : Int))), (12, (.int .i64 t12_9)), (48, (.bool t48_19))] s) (h : i_IsGraph_j1 F g_1 t12_9 c1 t48_19 = some r) : Run D σ (R51 r) (.nrm [.sq A51_5, .bk 1, .sq A51_6, .lp A51_1, .bk 0, .sq A51_7]) s := by
  unfold i_IsGraph_j1 at h
  obtain ⟨h1, h2, h10, h11, h12, h48⟩ := hs
  refine .nsq ?_
  refine run_cond (t := t48_19) h48 h (fun h => ?_) (fun h => ?_)
  · refine .seq ?_
    refine run_reg ?_
    refine e_end ?_
    refine g_v0 (.bool false) rfl rfl ?_
    refine g_end ?_
    refine e_end ?_
    refine renew [(1, (.ref (.bx 1) 0 [] (.agg [(.int .i64 g_1.1), (Enc.enc (g_1.2 : List (Int × Int)))]))), (2, (.bool false)), (10, (Enc.enc (g_1.2 : List (Int × Int)))), (11, (.int .i64 (g_1.2.length : Int))), (12, (.int .i64 t12_9))] ⟨h1, rfl, h10, h11, h12⟩ ?_
    rintro s ⟨h1, h2, h10, h11, h12⟩
    refine .nsq ?_
    refine .ret ?_
    have hr := Option.some.inj h
    subst hr
    exact rrA (res_tmp h2) rfl
  · refine .skip ?_
    refine .nbk ?_
    refine .nsq ?_
    refine run_reg ?_
    refine e_end ?_
    refine g_v1 (t := 12) (u := (.int .i64 t12_9)) (.int .i64 (w64 (t12_9 + 1))) h12 rfl rfl ?_
    refine g_v1 (t := 49) (u := (.int .i64 (w64 (t12_9 + 1)))) (.int .i64 (w64 (t12_9 + 1))) rfl rfl rfl ?_
    refine g_end ?_
    refine e_end ?_
    refine renew [(1, (.ref (.bx 1) 0 [] (.agg [(.int .i64 g_1.1), (Enc.enc (g_1.2 : List (Int × Int)))]))), (2, (.bool false)), (10, (Enc.enc (g_1.2 : List (Int × Int)))), (11, (.int .i64 (g_1.2.length : Int))), (12, (.int .i64 (w64 (t12_9 + 1))))] ⟨h1, h2, h10, h11, rfl⟩ ?_
    rintro s ⟨h1, h2, h10, h11, h12⟩
    refine .nlp ?_
    exact Hc1 (w64 (t12_9 + 1)) _ ⟨h1, h2, h10, h11, h12⟩ h
def i_IsGraph_l1 (F : Nat) (g_1 : (Int × (List (Int × Int))))  : Nat → Int → Option Bool
  | 0, _ => none
  | k + 1, t12_9 =>
    bif decide (t12_9 < (g_1.2.length : Int)) then
      (idx g_1.2 t12_9).bind fun e_16 =>
      bif decide (e_16.1 < 0) then
        i_IsGraph_j1 F g_1 t12_9 (i_IsGraph_l1 F g_1 k) true
      else
        bif decide (e_16.1 ≥ e_16.2) then
          i_IsGraph_j1 F g_1 t12_9 (i_IsGraph_l1 F g_1 k) true
        else
          bif decide (e_16.2 ≥ g_1.1) then
            i_IsGraph_j1 F g_1 t12_9 (i_IsGraph_l1 F g_1 k) true
          else
            bif decide (t12_9 > 0) then
              (idx g_1.2 (w64 (t12_9 - 1))).bind fun e_20 =>
              (slices_Compare F [e_20.1, e_20.2] [e_16.1, e_16.2]).bind fun r_21 =>
              i_IsGraph_j1 F g_1 t12_9 (i_IsGraph_l1 F g_1 k) (decide (r_21 ≥ 0))
            else
              i_IsGraph_j1 F g_1 t12_9 (i_IsGraph_l1 F g_1 k) false
    else
      some true
theorem t_f51_l1 (H : H51 D σ F) (g_1 : (Int × (List (Int × Int))))  : ∀ (k : Nat) (t12_9 : Int) (s : Nat → V), Facts [(1, (.ref (.bx 1) 0 [] (.agg [(.int .i64 g_1.1), (Enc.enc (g_1.2 : List (Int × Int)))]))), (2, (.bool false)), (10, (Enc.enc (g_1.2 : List (Int × Int)))), (11, (.int .i64 (g_1.2.length : Int))), (12, (.int .i64 t12_9))] s → i_IsGraph_l1 F g_1 k t12_9 = some r → Run D σ (R51 r) (.run A51_1 [.lp A51_1, .bk 0, .sq A51_7]) s := by
  intro k
  induction k with
  | zero => intro t12_9 s _ h; exact nomatch (h : (none : Option _) = some r)
  | succ k ih =>
    intro t12_9 s hs h
    rw [i_IsGraph_l1] at h
    obtain ⟨h1, h2, h10, h11, h12⟩ := hs
    refine .seq ?_
    refine run_reg ?_
    refine e_end ?_
    refine g_v2 (t1 := 12) (t2 := 11) (u1 := (.int .i64 t12_9)) (u2 := (.int .i64 (g_1.2.length : Int))) (.bool (decide (t12_9 < (g_1.2.length : Int)))) h12 h11 rfl rfl ?_
    refine g_end ?_
    refine e_end ?_
    refine renew [(1, (.ref (.bx 1) 0 [] (.agg [(.int .i64 g_1.1), (Enc.enc (g_1.2 : List (Int × Int)))]))), (2, (.bool false)), (10, (Enc.enc (g_1.2 : List (Int × Int)))), (11, (.int .i64 (g_1.2.length : Int))), (12, (.int .i64 t12_9)), (13, (.bool (decide (t12_9 < (g_1.2.length : Int)))))] ⟨h1, h2, h10, h11, h12, rfl⟩ ?_
    rintro s ⟨h1, h2, h10, h11, h12, h13⟩
    refine .nsq ?_
    refine .seq ?_
    refine run_cond (t := decide (t12_9 < (g_1.2.length : Int))) h13 h (fun h => ?_) (fun h => ?_)
    · refine .skip ?_
      refine .nsq ?_
      refine .seq ?_
      refine .block ?_
      refine .seq ?_
      refine run_reg ?_
      refine e_clr ?_
      refine e_end ?_
      refine g_v1 (t := 12) (u := (.int .i64 t12_9)) (.int .i64 t12_9) (keep_clear (s := s) (pk := [4]) h12 rfl rfl) rfl rfl ?_
      obtain ⟨e_16, E_e_16, h⟩ := bind_some h
      refine g_v (.ref .sh 0 [] (.agg [(.int .i64 e_16.1), (.int .i64 e_16.2)])) (ev_idx (t := .sh) (lo := 0) (xs := g_1.2) (keep_clear (s := s) (pk := [4]) h10 rfl (Enc.map_enc _ (g_1.2 : List (Int × Int)))) (keep_clear (s := s) (pk := [4]) h12 rfl rfl) E_e_16 rfl rfl) ?_
      refine g_v1 (t := 15) (u := (.ref .sh 0 [] (.agg [(.int .i64 e_16.1), (.int .i64 e_16.2)]))) (.agg [(.int .i64 e_16.1), (.int .i64 e_16.2)]) rfl rfl rfl ?_
      refine g_alloc (gone_clear (s := s) (pk := [4]) (t := 4) rfl) ?_
      refine g_v1 (t := 14) (u := (.int .i64 t12_9)) (.int .i64 t12_9) rfl rfl rfl ?_
      refine g_store (.agg [(.int .i64 e_16.1), (.int .i64 e_16.2)]) (rd_of rfl rfl) (rd_of rfl rfl) (by refine ⟨by decide, by decide, rfl, rfl, rfl, ?_⟩; first | rfl | simp [V.toks, V.tokss, Enc.toks_enc]) ?_
      refine g_end ?_
      refine e_end ?_
      refine renew [(1, (.ref (.bx 1) 0 [] (.agg [(.int .i64 g_1.1), (Enc.enc (g_1.2 : List (Int × Int)))]))), (2, (.bool false)), (3, (.int .i64 t12_9)), (4, (.ref (.bx 4) 0 [] (.agg [(.int .i64 e_16.1), (.int .i64 e_16.2)]))), (10, (Enc.enc (g_1.2 : List (Int × Int)))), (11, (.int .i64 (g_1.2.length : Int))), (12, (.int .i64 t12_9))] ⟨(keep_mut (keep_clear (s := s) (pk := [4]) h1 rfl (map_bx rfl (map_agg (maps_cons rfl (maps_cons (Enc.map_enc _ (g_1.2 : List (Int × Int))) maps_nil))))) (mut_ref_ne rfl rfl (mut_agg (muts_cons rfl (muts_cons (Enc.mut_enc _ _ _ _ (g_1.2 : List (Int × Int))) rfl))))), (keep_mut (keep_clear (s := s) (pk := [4]) h2 rfl rfl) rfl), (keep_mut rfl rfl), (keep_mut rfl rfl), (keep_mut (keep_clear (s := s) (pk := [4]) h10 rfl (Enc.map_enc _ (g_1.2 : List (Int × Int)))) (Enc.mut_enc _ _ _ _ (g_1.2 : List (Int × Int)))), (keep_mut (keep_clear (s := s) (pk := [4]) h11 rfl rfl) rfl), (keep_mut (keep_clear (s := s) (pk := [4]) h12 rfl rfl) rfl)⟩ ?_
      rintro s ⟨h1, h2, h3, h4, h10, h11, h12⟩
      refine .nsq ?_
      refine .seq ?_
      refine run_reg ?_
      refine e_end ?_
      refine g_v1 (t := 4) (u := (.ref (.bx 4) 0 [] (.agg [(.int .i64 e_16.1), (.int .i64 e_16.2)]))) (.ref (.bx 4) 0 [0] (.int .i64 e_16.1)) h4 rfl rfl ?_
      refine g_v1 (t := 17) (u := (.ref (.bx 4) 0 [0] (.int .i64 e_16.1))) (.int .i64 e_16.1) rfl rfl rfl ?_
      refine g_v1 (t := 18) (u := (.int .i64 e_16.1)) (.bool (decide (e_16.1 < 0))) rfl rfl rfl ?_
      refine g_v1 (t := 19) (u := (.bool (decide (e_16.1 < 0)))) (.bool (decide (e_16.1 < 0))) rfl rfl rfl ?_
      refine split_on (c := decide (e_16.1 < 0)) h (fun hg4 h => ?_) (fun hg4 h => ?_)
      · refine g_no (Eq.trans (b := .bool (decide (e_16.1 < 0))) rfl (congrArg V.bool hg4)) ?_
        refine g_no (Eq.trans (b := .bool (decide (e_16.1 < 0))) rfl (congrArg V.bool hg4)) ?_
        refine g_no (Eq.trans (b := .bool (decide (e_16.1 < 0))) rfl (congrArg V.bool hg4)) ?_
        refine g_no (Eq.trans (b := .bool (decide (e_16.1 < 0))) rfl (congrArg V.bool hg4)) ?_
        refine g_no (Eq.trans (b := .bool (decide (e_16.1 < 0))) rfl (congrArg V.bool hg4)) ?_
        refine g_v2 (t1 := 20) (t2 := 25) (u1 := (.bool true)) (u2 := (.tup [])) (.bool true) (Eq.trans (b := .bool (decide (e_16.1 < 0))) rfl (congrArg V.bool hg4)) rfl rfl rfl ?_
        refine g_v1 (t := 26) (u := (.bool true)) (.bool true) rfl rfl rfl ?_
        refine g_no rfl ?_
        refine g_no rfl ?_
        refine g_no rfl ?_
        refine g_no rfl ?_
        refine g_no rfl ?_
        refine g_v2 (t1 := 27) (t2 := 32) (u1 := (.bool true)) (u2 := (.tup [])) (.bool true) rfl rfl rfl rfl ?_
        refine g_v1 (t := 33) (u := (.bool true)) (.bool true) rfl rfl rfl ?_
        refine g_no rfl ?_
        refine g_no rfl ?_
        refine g_no rfl ?_
        refine g_skip rfl ?_
        refine g_skip rfl ?_
        refine g_skip rfl ?_
        refine g_skip rfl ?_
        refine g_skip rfl ?_
        refine g_skip rfl ?_
        refine g_skip rfl ?_
        refine g_skip rfl ?_
        refine g_skip rfl ?_
        refine g_no rfl ?_
        refine g_v2 (t1 := 34) (t2 := 47) (u1 := (.bool true)) (u2 := (.tup [])) (.bool true) rfl rfl rfl rfl ?_
        refine g_end ?_
        refine e_end ?_
        refine renew [(1, (.ref (.bx 1) 0 [] (.agg [(.int .i64 g_1.1), (Enc.enc (g_1.2 : List (Int × Int)))]))), (2, (.bool false)), (10, (Enc.enc (g_1.2 : List (Int × Int)))), (11, (.int .i64 (g_1.2.length : Int))), (12, (.int .i64 t12_9)), (48, (.bool true))] ⟨h1, h2, h10, h11, h12, rfl⟩ ?_
        rintro s ⟨h1, h2, h10, h11, h12, h48⟩
        exact t_f51_j1 H g_1 t12_9 (i_IsGraph_l1 F g_1 k) ih true _ ⟨h1, h2, h10, h11, h12, h48⟩ h
      · refine g_yes (Eq.trans (b := .bool (decide (e_16.1 < 0))) rfl (congrArg V.bool hg4)) (g_v1 (t := 4) (u := (.ref (.bx 4) 0 [] (.agg [(.int .i64 e_16.1), (.int .i64 e_16.2)]))) (.ref (.bx 4) 0 [0] (.int .i64 e_16.1)) h4 rfl rfl ?_)
        refine g_yes (Eq.trans (b := .bool (decide (e_16.1 < 0))) rfl (congrArg V.bool hg4)) (g_v1 (t := 21) (u := (.ref (.bx 4) 0 [0] (.int .i64 e_16.1))) (.int .i64 e_16.1) rfl rfl rfl ?_)
        refine g_yes (Eq.trans (b := .bool (decide (e_16.1 < 0))) rfl (congrArg V.bool hg4)) (g_v1 (t := 4) (u := (.ref (.bx 4) 0 [] (.agg [(.int .i64 e_16.1), (.int .i64 e_16.2)]))) (.ref (.bx 4) 0 [1] (.int .i64 e_16.2)) h4 rfl rfl ?_)
        refine g_yes (Eq.trans (b := .bool (decide (e_16.1 < 0))) rfl (congrArg V.bool hg4)) (g_v1 (t := 23) (u := (.ref (.bx 4) 0 [1] (.int .i64 e_16.2))) (.int .i64 e_16.2) rfl rfl rfl ?_)
        refine g_yes (Eq.trans (b := .bool (decide (e_16.1 < 0))) rfl (congrArg V.bool hg4)) (g_v2 (t1 := 22) (t2 := 24) (u1 := (.int .i64 e_16.1)) (u2 := (.int .i64 e_16.2)) (.bool (decide (e_16.1 ≥ e_16.2))) rfl rfl rfl rfl ?_)
        refine g_v2 (t1 := 20) (t2 := 25) (u1 := (.bool false)) (u2 := (.bool (decide (e_16.1 ≥ e_16.2)))) (.bool (decide (e_16.1 ≥ e_16.2))) (Eq.trans (b := .bool (decide (e_16.1 < 0))) rfl (congrArg V.bool hg4)) rfl rfl rfl ?_
        refine g_v1 (t := 26) (u := (.bool (decide (e_16.1 ≥ e_16.2)))) (.bool (decide (e_16.1 ≥ e_16.2))) rfl rfl rfl ?_
        refine split_on (c := decide (e_16.1 ≥ e_16.2)) h (fun hg11 h => ?_) (fun hg11 h => ?_)
        · refine g_no (Eq.trans (b := .bool (decide (e_16.1 ≥ e_16.2))) rfl (congrArg V.bool hg11)) ?_
          refine g_no (Eq.trans (b := .bool (decide (e_16.1 ≥ e_16.2))) rfl (congrArg V.bool hg11)) ?_
          refine g_no (Eq.trans (b := .bool (decide (e_16.1 ≥ e_16.2))) rfl (congrArg V.bool hg11)) ?_
          refine g_no (Eq.trans (b := .bool (decide (e_16.1 ≥ e_16.2))) rfl (congrArg V.bool hg11)) ?_
          refine g_no (Eq.trans (b := .bool (decide (e_16.1 ≥ e_16.2))) rfl (congrArg V.bool hg11)) ?_
          refine g_v2 (t1 := 27) (t2 := 32) (u1 := (.bool true)) (u2 := (.tup [])) (.bool true) (Eq.trans (b := .bool (decide (e_16.1 ≥ e_16.2))) rfl (congrArg V.bool hg11)) rfl rfl rfl ?_
          refine g_v1 (t := 33) (u := (.bool true)) (.bool true) rfl rfl rfl ?_
          refine g_no rfl ?_
          refine g_no rfl ?_
          refine g_no rfl ?_
          refine g_skip rfl ?_
          refine g_skip rfl ?_
          refine g_skip rfl ?_
          refine g_skip rfl ?_
          refine g_skip rfl ?_
          refine g_skip rfl ?_
          refine g_skip rfl ?_
          refine g_skip rfl ?_
          refine g_skip rfl ?_
          refine g_no rfl ?_
          refine g_v2 (t1 := 34) (t2 := 47) (u1 := (.bool true)) (u2 := (.tup [])) (.bool true) rfl rfl rfl rfl ?_
          refine g_end ?_
          refine e_end ?_
          refine renew [(1, (.ref (.bx 1) 0 [] (.agg [(.int .i64 g_1.1), (Enc.enc (g_1.2 : List (Int × Int)))]))), (2, (.bool false)), (10, (Enc.enc (g_1.2 : List (Int × Int)))), (11, (.int .i64 (g_1.2.length : Int))), (12, (.int .i64 t12_9)), (48, (.bool true))] ⟨h1, h2, h10, h11, h12, rfl⟩ ?_
          rintro s ⟨h1, h2, h10, h11, h12, h48⟩
          exact t_f51_j1 H g_1 t12_9 (i_IsGraph_l1 F g_1 k) ih true _ ⟨h1, h2, h10, h11, h12, h48⟩ h
        · refine g_yes (Eq.trans (b := .bool (decide (e_16.1 ≥ e_16.2))) rfl (congrArg V.bool hg11)) (g_v1 (t := 4) (u := (.ref (.bx 4) 0 [] (.agg [(.int .i64 e_16.1), (.int .i64 e_16.2)]))) (.ref (.bx 4) 0 [1] (.int .i64 e_16.2)) h4 rfl rfl ?_)
          refine g_yes (Eq.trans (b := .bool (decide (e_16.1 ≥ e_16.2))) rfl (congrArg V.bool hg11)) (g_v1 (t := 28) (u := (.ref (.bx 4) 0 [1] (.int .i64 e_16.2))) (.int .i64 e_16.2) rfl rfl rfl ?_)
          refine g_yes (Eq.trans (b := .bool (decide (e_16.1 ≥ e_16.2))) rfl (congrArg V.bool hg11)) (g_v1 (t := 1) (u := (.ref (.bx 1) 0 [] (.agg [(.int .i64 g_1.1), (Enc.enc (g_1.2 : List (Int × Int)))]))) (.ref (.bx 1) 0 [0] (.int .i64 g_1.1)) h1 rfl rfl ?_)
          refine g_yes (Eq.trans (b := .bool (decide (e_16.1 ≥ e_16.2))) rfl (congrArg V.bool hg11)) (g_v1 (t := 30) (u := (.ref (.bx 1) 0 [0] (.int .i64 g_1.1))) (.int .i64 g_1.1) rfl rfl rfl ?_)
          refine g_yes (Eq.trans (b := .bool (decide (e_16.1 ≥ e_16.2))) rfl (congrArg V.bool hg11)) (g_v2 (t1 := 29) (t2 := 31) (u1 := (.int .i64 e_16.2)) (u2 := (.int .i64 g_1.1)) (.bool (decide (e_16.2 ≥ g_1.1))) rfl rfl rfl rfl ?_)
          refine g_v2 (t1 := 27) (t2 := 32) (u1 := (.bool false)) (u2 := (.bool (decide (e_16.2 ≥ g_1.1)))) (.bool (decide (e_16.2 ≥ g_1.1))) (Eq.trans (b := .bool (decide (e_16.1 ≥ e_16.2))) rfl (congrArg V.bool hg11)) rfl rfl rfl ?_
          refine g_v1 (t := 33) (u := (.bool (decide (e_16.2 ≥ g_1.1)))) (.bool (decide (e_16.2 ≥ g_1.1))) rfl rfl rfl ?_
          refine split_on (c := decide (e_16.2 ≥ g_1.1)) h (fun hg18 h => ?_) (fun hg18 h => ?_)
          · refine g_no (Eq.trans (b := .bool (decide (e_16.2 ≥ g_1.1))) rfl (congrArg V.bool hg18)) ?_
            refine g_no (Eq.trans (b := .bool (decide (e_16.2 ≥ g_1.1))) rfl (congrArg V.bool hg18)) ?_
            refine g_no (Eq.trans (b := .bool (decide (e_16.2 ≥ g_1.1))) rfl (congrArg V.bool hg18)) ?_
            refine g_skip rfl ?_
            refine g_skip rfl ?_
            refine g_skip rfl ?_
            refine g_skip rfl ?_
            refine g_skip rfl ?_
            refine g_skip rfl ?_
            refine g_skip rfl ?_
            refine g_skip rfl ?_
            refine g_skip rfl ?_
            refine g_no (Eq.trans (b := .bool (decide (e_16.2 ≥ g_1.1))) rfl (congrArg V.bool hg18)) ?_
            refine g_v2 (t1 := 34) (t2 := 47) (u1 := (.bool true)) (u2 := (.tup [])) (.bool true) (Eq.trans (b := .bool (decide (e_16.2 ≥ g_1.1))) rfl (congrArg V.bool hg18)) rfl rfl rfl ?_
            refine g_end ?_
            refine e_end ?_
            refine renew [(1, (.ref (.bx 1) 0 [] (.agg [(.int .i64 g_1.1), (Enc.enc (g_1.2 : List (Int × Int)))]))), (2, (.bool false)), (10, (Enc.enc (g_1.2 : List (Int × Int)))), (11, (.int .i64 (g_1.2.length : Int))), (12, (.int .i64 t12_9)), (48, (.bool true))] ⟨h1, h2, h10, h11, h12, rfl⟩ ?_
            rintro s ⟨h1, h2, h10, h11, h12, h48⟩
            exact t_f51_j1 H g_1 t12_9 (i_IsGraph_l1 F g_1 k) ih true _ ⟨h1, h2, h10, h11, h12, h48⟩ h
          · refine g_yes (Eq.trans (b := .bool (decide (e_16.2 ≥ g_1.1))) rfl (congrArg V.bool hg18)) (g_v1 (t := 3) (u := (.int .i64 t12_9)) (.int .i64 t12_9) h3 rfl rfl ?_)
            refine g_yes (Eq.trans (b := .bool (decide (e_16.2 ≥ g_1.1))) rfl (congrArg V.bool hg18)) (g_v1 (t := 35) (u := (.int .i64 t12_9)) (.bool (decide (t12_9 > 0))) rfl rfl rfl ?_)
            refine g_yes (Eq.trans (b := .bool (decide (e_16.2 ≥ g_1.1))) rfl (congrArg V.bool hg18)) (g_v1 (t := 36) (u := (.bool (decide (t12_9 > 0)))) (.bool (decide (t12_9 > 0))) rfl rfl rfl ?_)
            refine split_on (c := decide (t12_9 > 0)) h (fun hg21 h => ?_) (fun hg21 h => ?_)
            · refine g_yes (Eq.trans (b := .bool (decide (t12_9 > 0))) rfl (congrArg V.bool hg21)) (g_v1 (t := 1) (u := (.ref (.bx 1) 0 [] (.agg [(.int .i64 g_1.1), (Enc.enc (g_1.2 : List (Int × Int)))]))) (.ref (.bx 1) 0 [1] (Enc.enc (g_1.2 : List (Int × Int)))) h1 rfl rfl ?_)
              refine g_yes (Eq.trans (b := .bool (decide (t12_9 > 0))) rfl (congrArg V.bool hg21)) (g_v1 (t := 38) (u := (.ref (.bx 1) 0 [1] (Enc.enc (g_1.2 : List (Int × Int))))) (Enc.enc (g_1.2 : List (Int × Int))) rfl rfl rfl ?_)
              refine g_yes (Eq.trans (b := .bool (decide (t12_9 > 0))) rfl (congrArg V.bool hg21)) (g_v1 (t := 3) (u := (.int .i64 t12_9)) (.int .i64 t12_9) h3 rfl rfl ?_)
              refine g_yes (Eq.trans (b := .bool (decide (t12_9 > 0))) rfl (congrArg V.bool hg21)) (g_v1 (t := 40) (u := (.int .i64 t12_9)) (.int .i64 (w64 (t12_9 - 1))) rfl rfl rfl ?_)
              obtain ⟨e_20, E_e_20, h⟩ := bind_some h
              refine g_yes (Eq.trans (b := .bool (decide (t12_9 > 0))) rfl (congrArg V.bool hg21)) (g_v (.ref .sh 0 [] (.agg [(.int .i64 e_20.1), (.int .i64 e_20.2)])) (ev_idx (t := .sh) (lo := 0) (xs := g_1.2) rfl rfl E_e_20 rfl rfl) ?_)
              refine g_yes (Eq.trans (b := .bool (decide (t12_9 > 0))) rfl (congrArg V.bool hg21)) (g_v1 (t := 42) (u := (.ref .sh 0 [] (.agg [(.int .i64 e_20.1), (.int .i64 e_20.2)]))) (Enc.enc ([e_20.1, e_20.2] : List Int)) rfl rfl rfl ?_)
              refine g_yes (Eq.trans (b := .bool (decide (t12_9 > 0))) rfl (congrArg V.bool hg21)) (g_v1 (t := 4) (u := (.ref (.bx 4) 0 [] (.agg [(.int .i64 e_16.1), (.int .i64 e_16.2)]))) (encO (.bx 4) (.of ([e_16.1, e_16.2] : List Int))) h4 rfl rfl ?_)
              obtain ⟨r_21, E_r_21, h⟩ := bind_some h
              refine g_yes (Eq.trans (b := .bool (decide (t12_9 > 0))) rfl (congrArg V.bool hg21)) (g_call (m := 0) (al := false) (r := (Enc.enc (r_21 : Int))) [Enc.enc ([e_20.1, e_20.2] : (List Int)), Enc.enc ([e_16.1, e_16.2] : (List Int))] (ta_cons (v := (Enc.enc ([e_20.1, e_20.2] : List Int))) rfl rfl (Enc.erase_enc ([e_20.1, e_20.2] : (List Int))) (ta_cons (v := (encO (.bx 4) (.of ([e_16.1, e_16.2] : List Int)))) rfl rfl (erase_encO (o := .of [e_16.1, e_16.2])) ta_nil)) (H.c101 _ _ _ E_r_21) H.g101 rfl rfl rfl rfl ?_)
              refine g_yes (Eq.trans (b := .bool (decide (t12_9 > 0))) rfl (congrArg V.bool hg21)) (g_v1 (t := 45) (u := (.int .i64 r_21)) (.bool (decide (r_21 ≥ 0))) rfl rfl rfl ?_)
              refine g_yes (Eq.trans (b := .bool (decide (e_16.2 ≥ g_1.1))) rfl (congrArg V.bool hg18)) (g_v2 (t1 := 37) (t2 := 46) (u1 := (.bool true)) (u2 := (.bool (decide (r_21 ≥ 0)))) (.bool (decide (r_21 ≥ 0))) (Eq.trans (b := .bool (decide (t12_9 > 0))) rfl (congrArg V.bool hg21)) rfl rfl rfl ?_)
              refine g_v2 (t1 := 34) (t2 := 47) (u1 := (.bool false)) (u2 := (.bool (decide (r_21 ≥ 0)))) (.bool (decide (r_21 ≥ 0))) (Eq.trans (b := .bool (decide (e_16.2 ≥ g_1.1))) rfl (congrArg V.bool hg18)) rfl rfl rfl ?_
              refine g_end ?_
              refine e_end ?_
              refine renew [(1, (.ref (.bx 1) 0 [] (.agg [(.int .i64 g_1.1), (Enc.enc (g_1.2 : List (Int × Int)))]))), (2, (.bool false)), (10, (Enc.enc (g_1.2 : List (Int × Int)))), (11, (.int .i64 (g_1.2.length : Int))), (12, (.int .i64 t12_9)), (48, (.bool (decide (r_21 ≥ 0))))] ⟨h1, h2, h10, h11, h12, rfl⟩ ?_
              rintro s ⟨h1, h2, h10, h11, h12, h48⟩
              exact t_f51_j1 H g_1 t12_9 (i_IsGraph_l1 F g_1 k) ih (decide (r_21 ≥ 0)) _ ⟨h1, h2, h10, h11, h12, h48⟩ h
            · refine g_no (Eq.trans (b := .bool (decide (t12_9 > 0))) rfl (congrArg V.bool hg21)) ?_
              refine g_no (Eq.trans (b := .bool (decide (t12_9 > 0))) rfl (congrArg V.bool hg21)) ?_
              refine g_no (Eq.trans (b := .bool (decide (t12_9 > 0))) rfl (congrArg V.bool hg21)) ?_
              refine g_no (Eq.trans (b := .bool (decide (t12_9 > 0))) rfl (congrArg V.bool hg21)) ?_
              refine g_no (Eq.trans (b := .bool (decide (t12_9 > 0))) rfl (congrArg V.bool hg21)) ?_
              refine g_no (Eq.trans (b := .bool (decide (t12_9 > 0))) rfl (congrArg V.bool hg21)) ?_
              refine g_no (Eq.trans (b := .bool (decide (t12_9 > 0))) rfl (congrArg V.bool hg21)) ?_
              refine g_no (Eq.trans (b := .bool (decide (t12_9 > 0))) rfl (congrArg V.bool hg21)) ?_
              refine g_no (Eq.trans (b := .bool (decide (t12_9 > 0))) rfl (congrArg V.bool hg21)) ?_
              refine g_yes (Eq.trans (b := .bool (decide (e_16.2 ≥ g_1.1))) rfl (congrArg V.bool hg18)) (g_v2 (t1 := 37) (t2 := 46) (u1 := (.bool false)) (u2 := (.tup [])) (.bool false) (Eq.trans (b := .bool (decide (t12_9 > 0))) rfl (congrArg V.bool hg21)) rfl rfl rfl ?_)
              refine g_v2 (t1 := 34) (t2 := 47) (u1 := (.bool false)) (u2 := (.bool false)) (.bool false) (Eq.trans (b := .bool (decide (e_16.2 ≥ g_1.1))) rfl (congrArg V.bool hg18)) rfl rfl rfl ?_
              refine g_end ?_
              refine e_end ?_
              refine renew [(1, (.ref (.bx 1) 0 [] (.agg [(.int .i64 g_1.1), (Enc.enc (g_1.2 : List (Int × Int)))]))), (2, (.bool false)), (10, (Enc.enc (g_1.2 : List (Int × Int)))), (11, (.int .i64 (g_1.2.length : Int))), (12, (.int .i64 t12_9)), (48, (.bool false))] ⟨h1, h2, h10, h11, h12, rfl⟩ ?_
              rintro s ⟨h1, h2, h10, h11, h12, h48⟩
              exact t_f51_j1 H g_1 t12_9 (i_IsGraph_l1 F g_1 k) ih false _ ⟨h1, h2, h10, h11, h12, h48⟩ h
    · refine .exit ?_
      refine .esq ?_
      refine .elp ?_
      refine .ebk ?_
      refine .nsq ?_
      refine .seq ?_
      refine run_reg ?_
      refine e_end ?_
      refine g_v0 (.bool true) rfl rfl ?_
      refine g_end ?_
      refine e_end ?_
      refine renew [(2, (.bool true))] rfl ?_
      rintro s h2
      refine .nsq ?_
      refine .ret ?_
      have hr := Option.some.inj h
      subst hr
      exact rrA (res_tmp h2) rfl
def i_IsGraph (F : Nat) (g_1 : (Int × (List (Int × Int)))) : Option Bool :=
  (i_within F g_1.1 0 8).bind fun r_2 =>
  bif (!r_2) then
    some false
  else
    i_IsGraph_l1 F g_1 F 0
theorem t51 (H : H51 D σ F) (g_1 : (Int × (List (Int × Int)))) (s : Nat → V) (hs : Facts [(0, (.agg [(.int .i64 g_1.1), (Enc.enc (g_1.2 : List (Int × Int)))]))] s) (h : i_IsGraph F g_1 = some r) : Run D σ (R51 r) (.run A51 []) s := by
  unfold i_IsGraph at h
  have h0 := hs
  refine .seq ?_
  refine run_reg ?_
  refine e_clr ?_
  refine e_end ?_
  refine g_box (.agg [(.int .i64 g_1.1), (Enc.enc (g_1.2 : List (Int × Int)))]) (rd_of (keep_clear (s := s) (pk := [1]) h0 rfl (map_agg (maps_cons rfl (maps_cons (Enc.map_enc _ (g_1.2 : List (Int × Int))) maps_nil)))) rfl) (gone_clear (s := s) (pk := [1]) (t := 1) rfl) rfl ?_
  refine g_v0 (.bool false) rfl rfl ?_
  refine g_end ?_
  refine e_end ?_
  refine renew [(1, (.ref (.bx 1) 0 [] (.agg [(.int .i64 g_1.1), (Enc.enc (g_1.2 : List (Int × Int)))]))), (2, (.bool false))] ⟨rfl, rfl⟩ ?_
  rintro s ⟨h1, h2⟩
  refine .nsq ?_
  refine .seq ?_
  refine .seq ?_
  refine run_reg ?_
  refine e_end ?_
  refine g_v1 (t := 1) (u := (.ref (.bx 1) 0 [] (.agg [(.int .i64 g_1.1), (Enc.enc (g_1.2 : List (Int × Int)))]))) (.ref (.bx 1) 0 [0] (.int .i64 g_1.1)) h1 rfl rfl ?_
  refine g_v1 (t := 5) (u := (.ref (.bx 1) 0 [0] (.int .i64 g_1.1))) (.int .i64 g_1.1) rfl rfl rfl ?_
  obtain ⟨r_2, E_r_2, h⟩ := bind_some h
  refine g_call (m := 0) (al := false) (r := (Enc.enc (r_2 : Bool))) [Enc.enc (g_1.1 : Int), Enc.enc (0 : Int), Enc.enc (8 : Int)] (ta_cons (v := (.int .i64 g_1.1)) rfl rfl rfl (ta_cons (v := (.int .i64 0)) rfl rfl rfl (ta_cons (v := (.int .i64 8)) rfl rfl rfl ta_nil))) (H.c100 _ _ _ _ E_r_2) H.g100 rfl rfl rfl rfl ?_
  refine g_v1 (t := 7) (u := (.bool r_2)) (.bool (!r_2)) rfl rfl rfl ?_
  refine g_end ?_
  refine e_end ?_
  refine renew [(1, (.ref (.bx 1) 0 [] (.agg [(.int .i64 g_1.1), (Enc.enc (g_1.2 : List (Int × Int)))]))), (2, (.bool false)), (8, (.bool (!r_2)))] ⟨h1, h2, rfl⟩ ?_
  rintro s ⟨h1, h2, h8⟩
  refine .nsq ?_
  refine run_cond (t := (!r_2)) h8 h (fun h => ?_) (fun h => ?_)
  · refine .seq ?_
    refine run_reg ?_
    refine e_end ?_
    refine g_v0 (.bool false) rfl rfl ?_
    refine g_end ?_
    refine e_end ?_
    refine renew [(1, (.ref (.bx 1) 0 [] (.agg [(.int .i64 g_1.1), (Enc.enc (g_1.2 : List (Int × Int)))]))), (2, (.bool false))] ⟨h1, rfl⟩ ?_
    rintro s ⟨h1, h2⟩
    refine .nsq ?_
    refine .ret ?_
    have hr := Option.some.inj h
    subst hr
    exact rrA (res_tmp h2) rfl
  · refine .skip ?_
    refine .nsq ?_
    refine .seq ?_
    refine .seq ?_
    refine run_reg ?_
    refine e_end ?_
    refine g_v1 (t := 1) (u := (.ref (.bx 1) 0 [] (.agg [(.int .i64 g_1.1), (Enc.enc (g_1.2 : List (Int × Int)))]))) (.ref (.bx 1) 0 [1] (Enc.enc (g_1.2 : List (Int × Int)))) h1 rfl rfl ?_
    refine g_v1 (t := 9) (u := (.ref (.bx 1) 0 [1] (Enc.enc (g_1.2 : List (Int × Int))))) (Enc.enc (g_1.2 : List (Int × Int))) rfl rfl rfl ?_
    refine g_v (.int .i64 (g_1.2.length : Int)) (ev_len (xs := g_1.2) rfl) ?_
    refine g_v0 (.int .i64 0) rfl rfl ?_
    refine g_end ?_
    refine e_end ?_
    refine renew [(1, (.ref (.bx 1) 0 [] (.agg [(.int .i64 g_1.1), (Enc.enc (g_1.2 : List (Int × Int)))]))), (2, (.bool false)), (10, (Enc.enc (g_1.2 : List (Int × Int)))), (11, (.int .i64 (g_1.2.length : Int))), (12, (.int .i64 0))] ⟨h1, h2, rfl, rfl, rfl⟩ ?_
    rintro s ⟨h1, h2, h10, h11, h12⟩
    refine .nsq ?_
    refine .block ?_
    refine .loop ?_
    exact t_f51_l1 H g_1 F 0 _ ⟨h1, h2, h10, h11, h12⟩ h
end
def e51 (F : Nat) : Ent := ⟨51, da (fun (x : ((Int × (List (Int × Int))) × Unit)) => i_IsGraph F x.1) (fun (r : Bool) => (Enc.enc (r : Bool))), 0, false, selF []⟩
theorem p51 {F : Nat} {x0 : (Int × (List (Int × Int)))} {r : Bool} (h : i_IsGraph F x0 = some r) : (e51 F).den [Enc.enc x0] = some (Enc.enc (r : Bool)) := da_put (f := fun (x : ((Int × (List (Int × Int))) × Unit)) => i_IsGraph F x.1) (t := fun (r : Bool) => (Enc.enc (r : Bool))) (x0, ()) h
theorem o51 {D : Den} {σ : Sig} {F : Nat} (hF : Fits2 Try.prog D σ) (H : H51 D σ F) : (e51 F).Ok Try.prog := by
  refine ok_of (f := 51) (show unk 51 = 51 from rfl) (fun args r h => ?_) ⟨Try.f51, Try.func51, rfl, rfl⟩
  obtain ⟨⟨x0, _⟩, y, rfl, hy, rfl⟩ := da_open h
  exact contract_run hF (by kernel_rfl) Try.func51 rfl c51 (show 1 ≤ Try.f51.ntmps by decide) (t51 H x0 _ rfl hy)
/- loop.example/g01109/impl.netOf -/
def A52_5 : AC := (AC.reg [] [(I.mk (some 28) none false (X.v (A.fld (O.t 3) 0 0))), (I.mk (some 29) none false (X.v (A.load Sh.p (O.t 28)))), (I.mk (some 30) none false (X.v (A.idxA (O.t 5) (O.k (V.int IntKind.i64 (Int.ofNat 1))) 2 1))), (I.mk (some 31) none false (X.v (A.load Sh.s (O.t 30)))), (I.mk (some 32) none false (X.v (A.idx (O.t 29) (O.t 31) 1))), (I.mk (some 33) none false (X.v (A.load Sh.s (O.t 32)))), (I.mk (some 34) none false (X.v (A.idxA (O.t 5) (O.k (V.int IntKind.i64 (Int.ofNat 0))) 2 1))), (I.mk (some 35) none false (X.v (A.load Sh.s (O.t 34)))), (I.mk (some 36) none false (X.v (A.bin BinOp.shl (O.k (V.int IntKind.i64 (Int.ofNat 1))) (O.t 35)))), (I.mk (some 37) none false (X.v (A.bin BinOp.or (O.t 33) (O.t 36)))), (I.mk (some 38) none false (X.v (A.idx (O.t 29) (O.t 31) 1))), (I.mk none none false (X.store Sh.s (O.t 38) (O.t 37)))] [])
def A52_4 : AC := (AC.seq (AC.reg [] [(I.mk (some 17) none false (X.v (A.fld (O.t 3) 0 0))), (I.mk (some 18) none false (X.v (A.load Sh.p (O.t 17)))), (I.mk (some 19) none false (X.v (A.idxA (O.t 5) (O.k (V.int IntKind.i64 (Int.ofNat 0))) 2 1))), (I.mk (some 20) none false (X.v (A.load Sh.s (O.t 19)))), (I.mk (some 21) none false (X.v (A.idx (O.t 18) (O.t 20) 1))), (I.mk (some 22) none false (X.v (A.load Sh.s (O.t 21)))), (I.mk (some 23) none false (X.v (A.idxA (O.t 5) (O.k (V.int IntKind.i64 (Int.ofNat 1))) 2 1))), (I.mk (some 24) none false (X.v (A.load Sh.s (O.t 23)))), (I.mk (some 25) none false (X.v (A.bin BinOp.shl (O.k (V.int IntKind.i64 (Int.ofNat 1))) (O.t 24)))), (I.mk (some 26) none false (X.v (A.bin BinOp.or (O.t 22) (O.t 25)))), (I.mk (some 27) none false (X.v (A.idx (O.t 18) (O.t 20) 1))), (I.mk none none false (X.store Sh.s (O.t 27) (O.t 26)))] []) A52_5)
def A52_6 : AC := (AC.reg [] [(I.mk (some 39) none false (X.v (A.bin BinOp.add (O.t 13) (O.k (V.int IntKind.i64 (Int.ofNat 1)))))), (I.mk (some 13) none false (X.v (A.mov (O.t 39))))] [])
def A52_3 : AC := (AC.seq (AC.block 1 (AC.seq (AC.reg [.clr [5]] [(I.mk (some 15) none false (X.v (A.idx (O.t 11) (O.t 13) 2))), (I.mk (some 16) none false (X.v (A.load (Sh.ag [Sh.s, Sh.s]) (O.t 15)))), (I.mk (some 5) none false (X.alloc (V.agg [(V.int IntKind.i64 (Int.ofNat 0)), (V.int IntKind.i64 (Int.ofNat 0))]))), (I.mk none none false (X.store (Sh.ag [Sh.s, Sh.s]) (O.t 5) (O.t 16)))] []) A52_4)) A52_6)
def A52_2 : AC := (AC.seq (AC.cond (O.t 14) AC.skip (AC.exit 0)) A52_3)
def A52_1 : AC := (AC.seq (AC.reg [] [(I.mk (some 14) none false (X.v (A.bin BinOp.lss (O.t 13) (O.t 12))))] []) A52_2)
def A52_7 : AC := (AC.seq (AC.reg [] [(I.mk (some 40) none false (X.v (A.load (Sh.ag [Sh.p]) (O.t 3)))), (I.mk none none false (X.store (Sh.ag [Sh.p]) (O.t 2) (O.t 40)))] []) AC.ret)
def A52_10 : AC := (AC.block 0 (AC.loop A52_1))
def A52_9 : AC := (AC.seq (AC.seq (AC.reg [] [(I.mk (some 10) none false (X.v (A.fld (O.t 1) 1 1))), (I.mk (some 11) none false (X.v (A.load Sh.p (O.t 10)))), (I.mk (some 12) none false (X.v (A.len (O.t 11)))), (I.mk (some 13) none false (X.v (A.mov (O.k (V.int IntKind.i64 (Int.ofNat 0))))))] []) A52_10) A52_7)
def A52_8 : AC := (AC.seq (AC.reg [.clr [8, 3]] [(I.mk (some 6) none false (X.v (A.fld (O.t 1) 0 0))), (I.mk (some 7) none false (X.v (A.load Sh.s (O.t 6)))), (I.mk (some 8) none false (X.mk (O.t 7) (V.int IntKind.i64 (Int.ofNat 0)))), (I.mk (some 9) none false (X.v (A.bld (V.agg [(V.sl Tok.nl Sh.s 0 [])]) [(0, 0, (O.t 8))]))), (I.mk (some 3) none false (X.alloc (V.agg [(V.sl Tok.nl Sh.s 0 [])]))), (I.mk none none false (X.store (Sh.ag [Sh.p]) (O.t 3) (O.t 9)))] []) A52_9)
def A52 : AC := (AC.seq (AC.reg [.clr [1, 2]] [(I.mk (some 1) none false (X.box (O.t 0))), (I.mk (some 2) none false (X.alloc (V.agg [(V.sl Tok.nl Sh.s 0 [])])))] []) A52_8)
def an52 : List An := [{ id := 0, pre := [.clr [1, 2]], ep := [], lin := [], sp := [] }, { id := 1, pre := [.clr [8, 3]], ep := [], lin := [], sp := [] }, { id := 4, pre := [.clr [5]], ep := [], lin := [], sp := [] }]
theorem c52 : cC Try.prog Try.f52.ntmps an52 (Try.f52.body.getD .skip) = some A52 := by kernel_rfl
structure H52 (D : Den) (σ : Sig) (F : Nat) : Prop where
  mk ::
abbrev R52 (r : (S1 (List Int))) : (Nat → V) → Prop := RR Try.prog [.cell 2 48] 0 false (Enc.enc (r : (S1 (List Int))))
section
variable {D : Den} {σ : Sig} {F : Nat} {r : (S1 (List Int))}
def i_netOf_l1 (F : Nat) (g_1 : (Int × (List (Int × Int))))  : Nat → (List Int) → Int → Option (S1 (List Int))
  | 0, _, _ => none
  | k + 1, w_10, t13_11 =>
    bif decide (t13_11 < (g_1.2.length : Int)) then
      (idx g_1.2 t13_11).bind fun e_19 =>
      (idx w_10 e_19.1).bind fun e_20 =>
      (shlI .i64 1 e_19.2).bind fun q_21 =>
      (idx w_10 e_19.1).bind fun e_22 =>
      (idx (w_10.set e_19.1.toNat (ior .i64 e_20 q_21)) e_19.2).bind fun e_23 =>
      (shlI .i64 1 e_19.1).bind fun q_24 =>
      (idx (w_10.set e_19.1.toNat (ior .i64 e_20 q_21)) e_19.2).bind fun e_25 =>
      (i_netOf_l1 F g_1 k) ((w_10.set e_19.1.toNat (ior .i64 e_20 q_21)).set e_19.2.toNat (ior .i64 e_23 q_24)) (w64 (t13_11 + 1))
    else
      some (S1.mk w_10)
theorem t_f52_l1 (H : H52 D σ F) (g_1 : (Int × (List (Int × Int))))  : ∀ (k : Nat) (w_10 : (List Int)) (t13_11 : Int) (s : Nat → V), Facts [(2, (.ref (.bx 2) 0 [] (.agg [(.sl .nl (Enc.shp Int) 0 [])]))), (3, (.ref (.bx 3) 0 [] (.agg [(encO (.at 8 []) (.of (w_10 : List Int)))]))), (11, (Enc.enc (g_1.2 : List (Int × Int)))), (12, (.int .i64 (g_1.2.length : Int))), (13, (.int .i64 t13_11))] s → i_netOf_l1 F g_1 k w_10 t13_11 = some r → Run D σ (R52 r) (.run A52_1 [.lp A52_1, .bk 0, .sq A52_7]) s := by
  intro k
  induction k with
  | zero => intro w_10 t13_11 s _ h; exact nomatch (h : (none : Option _) = some r)
  | succ k ih =>
    intro w_10 t13_11 s hs h
    rw [i_netOf_l1] at h
    obtain ⟨h2, h3, h11, h12, h13⟩ := hs
    refine .seq ?_
    refine run_reg ?_
    refine e_end ?_
    refine g_v2 (t1 := 13) (t2 := 12) (u1 := (.int .i64 t13_11)) (u2 := (.int .i64 (g_1.2.length : Int))) (.bool (decide (t13_11 < (g_1.2.length : Int)))) h13 h12 rfl rfl ?_
    refine g_end ?_
    refine e_end ?_
    refine renew [(2, (.ref (.bx 2) 0 [] (.agg [(.sl .nl (Enc.shp Int) 0 [])]))), (3, (.ref (.bx 3) 0 [] (.agg [(encO (.at 8 []) (.of (w_10 : List Int)))]))), (11, (Enc.enc (g_1.2 : List (Int × Int)))), (12, (.int .i64 (g_1.2.length : Int))), (13, (.int .i64 t13_11)), (14, (.bool (decide (t13_11 < (g_1.2.length : Int)))))] ⟨h2, h3, h11, h12, h13, rfl⟩ ?_
    rintro s ⟨h2, h3, h11, h12, h13, h14⟩
    refine .nsq ?_
    refine .seq ?_
    refine run_cond (t := decide (t13_11 < (g_1.2.length : Int))) h14 h (fun h => ?_) (fun h => ?_)
    · refine .skip ?_
      refine .nsq ?_
      refine .seq ?_
      refine .block ?_
      refine .seq ?_
      refine run_reg ?_
      refine e_clr ?_
      refine e_end ?_
      obtain ⟨e_19, E_e_19, h⟩ := bind_some h
      refine g_v (.ref .sh 0 [] (.agg [(.int .i64 e_19.1), (.int .i64 e_19.2)])) (ev_idx (t := .sh) (lo := 0) (xs := g_1.2) (keep_clear (s := s) (pk := [5]) h11 rfl (Enc.map_enc _ (g_1.2 : List (Int × Int)))) (keep_clear (s := s) (pk := [5]) h13 rfl rfl) E_e_19 rfl rfl) ?_
      refine g_v1 (t := 15) (u := (.ref .sh 0 [] (.agg [(.int .i64 e_19.1), (.int .i64 e_19.2)]))) (.agg [(.int .i64 e_19.1), (.int .i64 e_19.2)]) rfl rfl rfl ?_
      refine g_alloc (gone_clear (s := s) (pk := [5]) (t := 5) rfl) ?_
      refine g_store (.agg [(.int .i64 e_19.1), (.int .i64 e_19.2)]) (rd_of rfl rfl) (rd_of rfl rfl) (by refine ⟨by decide, by decide, rfl, rfl, rfl, ?_⟩; first | rfl | simp [V.toks, V.tokss, Enc.toks_enc]) ?_
      refine g_end ?_
      refine e_end ?_
      refine renew [(2, (.ref (.bx 2) 0 [] (.agg [(.sl .nl (Enc.shp Int) 0 [])]))), (3, (.ref (.bx 3) 0 [] (.agg [(encO (.at 8 []) (.of (w_10 : List Int)))]))), (5, (.ref (.bx 5) 0 [] (.agg [(.int .i64 e_19.1), (.int .i64 e_19.2)]))), (11, (Enc.enc (g_1.2 : List (Int × Int)))), (12, (.int .i64 (g_1.2.length : Int))), (13, (.int .i64 t13_11))] ⟨(keep_mut (keep_clear (s := s) (pk := [5]) h2 rfl (map_bx rfl (map_agg (maps_cons rfl maps_nil)))) (mut_ref_ne rfl rfl (mut_agg (muts_cons rfl rfl)))), (keep_mut (keep_clear (s := s) (pk := [5]) h3 rfl (map_bx rfl (map_agg (maps_cons (map_encO (r := 8) (p := []) rfl rfl) maps_nil)))) (mut_ref_ne rfl rfl (mut_agg (muts_cons (mut_own_ne rfl rfl) rfl)))), (keep_mut rfl rfl), (keep_mut (keep_clear (s := s) (pk := [5]) h11 rfl (Enc.map_enc _ (g_1.2 : List (Int × Int)))) (Enc.mut_enc _ _ _ _ (g_1.2 : List (Int × Int)))), (keep_mut (keep_clear (s := s) (pk := [5]) h12 rfl rfl) rfl), (keep_mut (keep_clear (s := s) (pk := [5]) h13 rfl rfl) rfl)⟩ ?_
      rintro s ⟨h2, h3, h5, h11, h12, h13⟩
      refine .nsq ?_
      refine .seq ?_
      refine run_reg ?_
      refine e_end ?_
      refine g_v1 (t := 3) (u := (.ref (.bx 3) 0 [] (.agg [(encO (.at 8 []) (.of (w_10 : List Int)))]))) (.ref (.bx 3) 0 [0] (encO (.at 8 []) (.of (w_10 : List Int)))) h3 rfl rfl ?_
      refine g_v1 (t := 17) (u := (.ref (.bx 3) 0 [0] (encO (.at 8 []) (.of (w_10 : List Int))))) (encO (.at 8 []) (.of (w_10 : List Int))) rfl rfl rfl ?_
      refine g_v1 (t := 5) (u := (.ref (.bx 5) 0 [] (.agg [(.int .i64 e_19.1), (.int .i64 e_19.2)]))) (.ref (.bx 5) 0 [0] (.int .i64 e_19.1)) h5 rfl rfl ?_
      refine g_v1 (t := 19) (u := (.ref (.bx 5) 0 [0] (.int .i64 e_19.1))) (.int .i64 e_19.1) rfl rfl rfl ?_
      obtain ⟨e_20, E_e_20, h⟩ := bind_some h
      refine g_v (.ref (.at 8 []) e_19.1.toNat [] (.int .i64 e_20)) (ev_idxO (o := (.of w_10)) rfl rfl E_e_20 rfl) ?_
      refine g_v1 (t := 21) (u := (.ref (.at 8 []) e_19.1.toNat [] (.int .i64 e_20))) (.int .i64 e_20) rfl rfl rfl ?_
      refine g_v1 (t := 5) (u := (.ref (.bx 5) 0 [] (.agg [(.int .i64 e_19.1), (.int .i64 e_19.2)]))) (.ref (.bx 5) 0 [1] (.int .i64 e_19.2)) h5 rfl rfl ?_
      refine g_v1 (t := 23) (u := (.ref (.bx 5) 0 [1] (.int .i64 e_19.2))) (.int .i64 e_19.2) rfl rfl rfl ?_
      obtain ⟨q_21, E_q_21, h⟩ := bind_some h
      refine g_v (.int .i64 q_21) (ev_shl rfl rfl E_q_21) ?_
      refine g_v2 (t1 := 22) (t2 := 25) (u1 := (.int .i64 e_20)) (u2 := (.int .i64 q_21)) (.int .i64 (ior .i64 e_20 q_21)) rfl rfl rfl rfl ?_
      obtain ⟨e_22, E_e_22, h⟩ := bind_some h
      refine g_v (.ref (.at 8 []) e_19.1.toNat [] (.int .i64 e_22)) (ev_idxO (o := (.of w_10)) rfl rfl E_e_22 rfl) ?_
      refine g_store (.int .i64 (ior .i64 e_20 q_21)) (rd_of rfl rfl) (rd_of rfl rfl) (by refine ⟨by decide, by decide, rfl, rfl, rfl, ?_⟩; first | rfl | simp [V.toks, V.tokss, Enc.toks_enc]) ?_
      refine g_end ?_
      refine e_end ?_
      refine renew [(2, (.ref (.bx 2) 0 [] (.agg [(.sl .nl (Enc.shp Int) 0 [])]))), (3, (.ref (.bx 3) 0 [] (.agg [(encO (.at 8 []) (.of (w_10.set e_19.1.toNat (ior .i64 e_20 q_21) : List Int)))]))), (5, (.ref (.bx 5) 0 [] (.agg [(.int .i64 e_19.1), (.int .i64 e_19.2)]))), (11, (Enc.enc (g_1.2 : List (Int × Int)))), (12, (.int .i64 (g_1.2.length : Int))), (13, (.int .i64 t13_11))] ⟨(keep_mut h2 (mut_ref_ne rfl rfl (mut_agg (muts_cons rfl rfl)))), (keep_mut h3 (mut_ref_ne rfl rfl (mut_agg (muts_cons mut_own rfl)))), (keep_mut h5 rfl), (keep_mut h11 (Enc.mut_enc _ _ _ _ (g_1.2 : List (Int × Int)))), (keep_mut h12 rfl), (keep_mut h13 rfl)⟩ ?_
      rintro s ⟨h2, h3, h5, h11, h12, h13⟩
      refine .nsq ?_
      refine run_reg ?_
      refine e_end ?_
      refine g_v1 (t := 3) (u := (.ref (.bx 3) 0 [] (.agg [(encO (.at 8 []) (.of (w_10.set e_19.1.toNat (ior .i64 e_20 q_21) : List Int)))]))) (.ref (.bx 3) 0 [0] (encO (.at 8 []) (.of (w_10.set e_19.1.toNat (ior .i64 e_20 q_21) : List Int)))) h3 rfl rfl ?_
      refine g_v1 (t := 28) (u := (.ref (.bx 3) 0 [0] (encO (.at 8 []) (.of (w_10.set e_19.1.toNat (ior .i64 e_20 q_21) : List Int))))) (encO (.at 8 []) (.of (w_10.set e_19.1.toNat (ior .i64 e_20 q_21) : List Int))) rfl rfl rfl ?_
      refine g_v1 (t := 5) (u := (.ref (.bx 5) 0 [] (.agg [(.int .i64 e_19.1), (.int .i64 e_19.2)]))) (.ref (.bx 5) 0 [1] (.int .i64 e_19.2)) h5 rfl rfl ?_
      refine g_v1 (t := 30) (u := (.ref (.bx 5) 0 [1] (.int .i64 e_19.2))) (.int .i64 e_19.2) rfl rfl rfl ?_
      obtain ⟨e_23, E_e_23, h⟩ := bind_some h
      refine g_v (.ref (.at 8 []) e_19.2.toNat [] (.int .i64 e_23)) (ev_idxO (o := (.of (w_10.set e_19.1.toNat (ior .i64 e_20 q_21)))) rfl rfl E_e_23 rfl) ?_
      refine g_v1 (t := 32) (u := (.ref (.at 8 []) e_19.2.toNat [] (.int .i64 e_23))) (.int .i64 e_23) rfl rfl rfl ?_
      refine g_v1 (t := 5) (u := (.ref (.bx 5) 0 [] (.agg [(.int .i64 e_19.1), (.int .i64 e_19.2)]))) (.ref (.bx 5) 0 [0] (.int .i64 e_19.1)) h5 rfl rfl ?_
      refine g_v1 (t := 34) (u := (.ref (.bx 5) 0 [0] (.int .i64 e_19.1))) (.int .i64 e_19.1) rfl rfl rfl ?_
      obtain ⟨q_24, E_q_24, h⟩ := bind_some h
      refine g_v (.int .i64 q_24) (ev_shl rfl rfl E_q_24) ?_
      refine g_v2 (t1 := 33) (t2 := 36) (u1 := (.int .i64 e_23)) (u2 := (.int .i64 q_24)) (.int .i64 (ior .i64 e_23 q_24)) rfl rfl rfl rfl ?_
      obtain ⟨e_25, E_e_25, h⟩ := bind_some h
      refine g_v (.ref (.at 8 []) e_19.2.toNat [] (.int .i64 e_25)) (ev_idxO (o := (.of (w_10.set e_19.1.toNat (ior .i64 e_20 q_21)))) rfl rfl E_e_25 rfl) ?_
      refine g_store (.int .i64 (ior .i64 e_23 q_24)) (rd_of rfl rfl) (rd_of rfl rfl) (by refine ⟨by decide, by decide, rfl, rfl, rfl, ?_⟩; first | rfl | simp [V.toks, V.tokss, Enc.toks_enc]) ?_
      refine g_end ?_
      refine e_end ?_
      refine renew [(2, (.ref (.bx 2) 0 [] (.agg [(.sl .nl (Enc.shp Int) 0 [])]))), (3, (.ref (.bx 3) 0 [] (.agg [(encO (.at 8 []) (.of ((w_10.set e_19.1.toNat (ior .i64 e_20 q_21)).set e_19.2.toNat (ior .i64 e_23 q_24) : List Int)))]))), (11, (Enc.enc (g_1.2 : List (Int × Int)))), (12, (.int .i64 (g_1.2.length : Int))), (13, (.int .i64 t13_11))] ⟨(keep_mut h2 (mut_ref_ne rfl rfl (mut_agg (muts_cons rfl rfl)))), (keep_mut h3 (mut_ref_ne rfl rfl (mut_agg (muts_cons mut_own rfl)))), (keep_mut h11 (Enc.mut_enc _ _ _ _ (g_1.2 : List (Int × Int)))), (keep_mut h12 rfl), (keep_mut h13 rfl)⟩ ?_
      rintro s ⟨h2, h3, h11, h12, h13⟩
      refine .nbk ?_
      refine .nsq ?_
      refine run_reg ?_
      refine e_end ?_
      refine g_v1 (t := 13) (u := (.int .i64 t13_11)) (.int .i64 (w64 (t13_11 + 1))) h13 rfl rfl ?_
      refine g_v1 (t := 39) (u := (.int .i64 (w64 (t13_11 + 1)))) (.int .i64 (w64 (t13_11 + 1))) rfl rfl rfl ?_
      refine g_end ?_
      refine e_end ?_
      refine renew [(2, (.ref (.bx 2) 0 [] (.agg [(.sl .nl (Enc.shp Int) 0 [])]))), (3, (.ref (.bx 3) 0 [] (.agg [(encO (.at 8 []) (.of ((w_10.set e_19.1.toNat (ior .i64 e_20 q_21)).set e_19.2.toNat (ior .i64 e_23 q_24) : List Int)))]))), (11, (Enc.enc (g_1.2 : List (Int × Int)))), (12, (.int .i64 (g_1.2.length : Int))), (13, (.int .i64 (w64 (t13_11 + 1))))] ⟨h2, h3, h11, h12, rfl⟩ ?_
      rintro s ⟨h2, h3, h11, h12, h13⟩
      refine .nlp ?_
      exact ih ((w_10.set e_19.1.toNat (ior .i64 e_20 q_21)).set e_19.2.toNat (ior .i64 e_23 q_24)) (w64 (t13_11 + 1)) _ ⟨h2, h3, h11, h12, h13⟩ h
    · refine .exit ?_
      refine .esq ?_
      refine .elp ?_
      refine .ebk ?_
      refine .nsq ?_
      refine .seq ?_
      refine run_reg ?_
      refine e_end ?_
      refine g_v1 (t := 3) (u := (.ref (.bx 3) 0 [] (.agg [(encO (.at 8 []) (.of (w_10 : List Int)))]))) (.agg [(encO (.at 8 []) (.of (w_10 : List Int)))]) h3 rfl rfl ?_
      refine g_store (.agg [(encO (.at 8 []) (.of (w_10 : List Int)))]) (rd_of h2 rfl) (rd_of rfl rfl) (by refine ⟨by decide, by decide, rfl, rfl, rfl, ?_⟩; first | rfl | simp [V.toks, V.tokss, Enc.toks_enc]) ?_
      refine g_end ?_
      refine e_end ?_
      refine renew [(2, (.ref (.bx 2) 0 [] (.agg [(encO (.at 8 []) (.of (w_10 : List Int)))])))] (keep_mut h2 rfl) ?_
      rintro s h2
      refine .nsq ?_
      refine .ret ?_
      have hr := Option.some.inj h
      subst hr
      exact rrA (res_cell h2 (by kernel_rfl)) (fin_retF (fin_agg (fins_cons (fin_own (o := .of w_10)) fins_nil)) (mine_agg (mines_cons (mine_own rfl) mines_nil)))
def i_netOf (F : Nat) (g_1 : (Int × (List (Int × Int)))) : Option (S1 (List Int)) :=
  (mkN g_1.1 (0 : Int)).bind fun mk_2 =>
  i_netOf_l1 F g_1 F mk_2 0
theorem t52 (H : H52 D σ F) (g_1 : (Int × (List (Int × Int)))) (s : Nat → V) (hs : Facts [(0, (.agg [(.int .i64 g_1.1), (Enc.enc (g_1.2 : List (Int × Int)))]))] s) (h : i_netOf F g_1 = some r) : Run D σ (R52 r) (.run A52 []) s := by
  unfold i_netOf at h
  have h0 := hs
  refine .seq ?_
  refine run_reg ?_
  refine e_clr ?_
  refine e_end ?_
  refine g_box (.agg [(.int .i64 g_1.1), (Enc.enc (g_1.2 : List (Int × Int)))]) (rd_of (keep_clear (s := s) (pk := [1, 2]) h0 rfl (map_agg (maps_cons rfl (maps_cons (Enc.map_enc _ (g_1.2 : List (Int × Int))) maps_nil)))) rfl) (gone_clear (s := s) (pk := [1, 2]) (t := 1) rfl) rfl ?_
  refine g_alloc (gone_clear (s := s) (pk := [1, 2]) (t := 2) rfl) ?_
  refine g_end ?_
  refine e_end ?_
  refine renew [(1, (.ref (.bx 1) 0 [] (.agg [(.int .i64 g_1.1), (Enc.enc (g_1.2 : List (Int × Int)))]))), (2, (.ref (.bx 2) 0 [] (.agg [(.sl .nl (Enc.shp Int) 0 [])])))] ⟨rfl, rfl⟩ ?_
  rintro s ⟨h1, h2⟩
  refine .nsq ?_
  refine .seq ?_
  refine run_reg ?_
  refine e_clr ?_
  refine e_end ?_
  refine g_v1 (t := 1) (u := (.ref (.bx 1) 0 [] (.agg [(.int .i64 g_1.1), (Enc.enc (g_1.2 : List (Int × Int)))]))) (.ref (.bx 1) 0 [0] (.int .i64 g_1.1)) (keep_clear (s := s) (pk := [8, 3]) h1 rfl (map_bx rfl (map_agg (maps_cons rfl (maps_cons (Enc.map_enc _ (g_1.2 : List (Int × Int))) maps_nil))))) rfl rfl ?_
  refine g_v1 (t := 6) (u := (.ref (.bx 1) 0 [0] (.int .i64 g_1.1))) (.int .i64 g_1.1) rfl rfl rfl ?_
  obtain ⟨mk_2, E_mk_2, h⟩ := bind_some h
  refine g_mk (0 : Int) rfl rfl (gone_clear (s := s) (pk := [8, 3]) (t := 8) rfl) E_mk_2 ?_
  refine g_v1 (t := 8) (u := (encO (.at 8 []) (.of (mk_2 : List Int)))) (.agg [(encO (.at 8 []) (.of (mk_2 : List Int)))]) rfl rfl rfl ?_
  refine g_alloc (gone_clear (s := s) (pk := [8, 3]) (t := 3) rfl) ?_
  refine g_store (.agg [(encO (.at 8 []) (.of (mk_2 : List Int)))]) (rd_of rfl rfl) (rd_of rfl rfl) (by refine ⟨by decide, by decide, rfl, rfl, rfl, ?_⟩; first | rfl | simp [V.toks, V.tokss, Enc.toks_enc]) ?_
  refine g_end ?_
  refine e_end ?_
  refine renew [(1, (.ref (.bx 1) 0 [] (.agg [(.int .i64 g_1.1), (Enc.enc (g_1.2 : List (Int × Int)))]))), (2, (.ref (.bx 2) 0 [] (.agg [(.sl .nl (Enc.shp Int) 0 [])]))), (3, (.ref (.bx 3) 0 [] (.agg [(encO (.at 8 []) (.of (mk_2 : List Int)))])))] ⟨(keep_mut (keep_clear (s := s) (pk := [8, 3]) h1 rfl (map_bx rfl (map_agg (maps_cons rfl (maps_cons (Enc.map_enc _ (g_1.2 : List (Int × Int))) maps_nil))))) (mut_ref_ne rfl rfl (mut_agg (muts_cons rfl (muts_cons (Enc.mut_enc _ _ _ _ (g_1.2 : List (Int × Int))) rfl))))), (keep_mut (keep_clear (s := s) (pk := [8, 3]) h2 rfl (map_bx rfl (map_agg (maps_cons rfl maps_nil)))) (mut_ref_ne rfl rfl (mut_agg (muts_cons rfl rfl)))), (keep_mut rfl rfl)⟩ ?_
  rintro s ⟨h1, h2, h3⟩
  refine .nsq ?_
  refine .seq ?_
  refine .seq ?_
  refine run_reg ?_
  refine e_end ?_
  refine g_v1 (t := 1) (u := (.ref (.bx 1) 0 [] (.agg [(.int .i64 g_1.1), (Enc.enc (g_1.2 : List (Int × Int)))]))) (.ref (.bx 1) 0 [1] (Enc.enc (g_1.2 : List (Int × Int)))) h1 rfl rfl ?_
  refine g_v1 (t := 10) (u := (.ref (.bx 1) 0 [1] (Enc.enc (g_1.2 : List (Int × Int))))) (Enc.enc (g_1.2 : List (Int × Int))) rfl rfl rfl ?_
  refine g_v (.int .i64 (g_1.2.length : Int)) (ev_len (xs := g_1.2) rfl) ?_
  refine g_v0 (.int .i64 0) rfl rfl ?_
  refine g_end ?_
  refine e_end ?_
  refine renew [(2, (.ref (.bx 2) 0 [] (.agg [(.sl .nl (Enc.shp Int) 0 [])]))), (3, (.ref (.bx 3) 0 [] (.agg [(encO (.at 8 []) (.of (mk_2 : List Int)))]))), (11, (Enc.enc (g_1.2 : List (Int × Int)))), (12, (.int .i64 (g_1.2.length : Int))), (13, (.int .i64 0))] ⟨h2, h3, rfl, rfl, rfl⟩ ?_
  rintro s ⟨h2, h3, h11, h12, h13⟩
  refine .nsq ?_
  refine .block ?_
  refine .loop ?_
  exact t_f52_l1 H g_1 F mk_2 0 _ ⟨h2, h3, h11, h12, h13⟩ h
end
def e52 (F : Nat) : Ent := ⟨52, da (fun (x : ((Int × (List (Int × Int))) × Unit)) => i_netOf F x.1) (fun (r : (S1 (List Int))) => (Enc.enc (r : (S1 (List Int))))), 0, false, selF []⟩
theorem p52 {F : Nat} {x0 : (Int × (List (Int × Int)))} {r : (S1 (List Int))} (h : i_netOf F x0 = some r) : (e52 F).den [Enc.enc x0] = some (Enc.enc (r : (S1 (List Int)))) := da_put (f := fun (x : ((Int × (List (Int × Int))) × Unit)) => i_netOf F x.1) (t := fun (r : (S1 (List Int))) => (Enc.enc (r : (S1 (List Int))))) (x0, ()) h
theorem o52 {D : Den} {σ : Sig} {F : Nat} (hF : Fits2 Try.prog D σ) (H : H52 D σ F) : (e52 F).Ok Try.prog := by
  refine ok_of (f := 52) (show unk 52 = 52 from rfl) (fun args r h => ?_) ⟨Try.f52, Try.func52, rfl, rfl⟩
  obtain ⟨⟨x0, _⟩, y, rfl, hy, rfl⟩ := da_open h
  exact contract_run hF (by kernel_rfl) Try.func52 rfl c52 (show 1 ≤ Try.f52.ntmps by decide) (t52 H x0 _ rfl hy)
/- (loop.example/g01109/impl.net).all -/
def A59_1 : AC := (AC.seq (AC.reg [] [(I.mk (some 3) none false (X.v (A.fld (O.t 1) 0 0))), (I.mk (some 4) none false (X.v (A.load Sh.p (O.t 3)))), (I.mk (some 5) none false (X.v (A.len (O.t 4)))), (I.mk (some 6) none false (X.v (A.bin BinOp.shl (O.k (V.int IntKind.i64 (Int.ofNat 1))) (O.t 5)))), (I.mk (some 7) none false (X.v (A.bin BinOp.sub (O.t 6) (O.k (V.int IntKind.i64 (Int.ofNat 1)))))), (I.mk (some 2) none false (X.v (A.mov (O.t 7))))] []) AC.ret)
def A59 : AC := (AC.seq (AC.reg [.clr [1]] [(I.mk (some 1) none false (X.box (O.t 0))), (I.mk (some 2) none false (X.v (A.mov (O.k (V.int IntKind.i64 (Int.ofNat 0))))))] []) A59_1)
def an59 : List An := [{ id := 0, pre := [.clr [1]], ep := [], lin := [], sp := [] }]
theorem c59 : cC Try.prog Try.f59.ntmps an59 (Try.f59.body.getD .skip) = some A59 := by kernel_rfl
structure H59 (D : Den) (σ : Sig) (F : Nat) : Prop where
  mk ::
abbrev R59 (r : Int) : (Nat → V) → Prop := RR Try.prog [.tmp 2] 0 false (Enc.enc (r : Int))
section
variable {D : Den} {σ : Sig} {F : Nat} {r : Int}
def i_net_all (F : Nat) (w_1 : (S1 (List Int))) : Option Int :=
  (shlI .i64 1 (w_1.a.length : Int)).bind fun q_2 =>
  some (w64 (q_2 - 1))
theorem t59 (H : H59 D σ F) (w_1 : (S1 (List Int))) (s : Nat → V) (hs : Facts [(0, (.agg [(Enc.enc (w_1.a : List Int))]))] s) (h : i_net_all F w_1 = some r) : Run D σ (R59 r) (.run A59 []) s := by
  unfold i_net_all at h
  have h0 := hs
  refine .seq ?_
  refine run_reg ?_
  refine e_clr ?_
  refine e_end ?_
  refine g_box (.agg [(Enc.enc (w_1.a : List Int))]) (rd_of (keep_clear (s := s) (pk := [1]) h0 rfl (map_agg (maps_cons (Enc.map_enc _ (w_1.a : List Int)) maps_nil))) rfl) (gone_clear (s := s) (pk := [1]) (t := 1) rfl) rfl ?_
  refine g_v0 (.int .i64 0) rfl rfl ?_
  refine g_end ?_
  refine e_end ?_
  refine renew [(1, (.ref (.bx 1) 0 [] (.agg [(Enc.enc (w_1.a : List Int))]))), (2, (.int .i64 0))] ⟨rfl, rfl⟩ ?_
  rintro s ⟨h1, h2⟩
  refine .nsq ?_
  refine .seq ?_
  refine run_reg ?_
  refine e_end ?_
  refine g_v1 (t := 1) (u := (.ref (.bx 1) 0 [] (.agg [(Enc.enc (w_1.a : List Int))]))) (.ref (.bx 1) 0 [0] (Enc.enc (w_1.a : List Int))) h1 rfl rfl ?_
  refine g_v1 (t := 3) (u := (.ref (.bx 1) 0 [0] (Enc.enc (w_1.a : List Int)))) (Enc.enc (w_1.a : List Int)) rfl rfl rfl ?_
  refine g_v (.int .i64 (w_1.a.length : Int)) (ev_len (xs := w_1.a) rfl) ?_
  obtain ⟨q_2, E_q_2, h⟩ := bind_some h
  refine g_v (.int .i64 q_2) (ev_shl rfl rfl E_q_2) ?_
  refine g_v1 (t := 6) (u := (.int .i64 q_2)) (.int .i64 (w64 (q_2 - 1))) rfl rfl rfl ?_
  refine g_v1 (t := 7) (u := (.int .i64 (w64 (q_2 - 1)))) (.int .i64 (w64 (q_2 - 1))) rfl rfl rfl ?_
  refine g_end ?_
  refine e_end ?_
  refine renew [(2, (.int .i64 (w64 (q_2 - 1))))] rfl ?_
  rintro s h2
  refine .nsq ?_
  refine .ret ?_
  have hr := Option.some.inj h
  subst hr
  exact rrA (res_tmp h2) rfl
end
def e59 (F : Nat) : Ent := ⟨59, da (fun (x : ((S1 (List Int)) × Unit)) => i_net_all F x.1) (fun (r : Int) => (Enc.enc (r : Int))), 0, false, selF []⟩
theorem p59 {F : Nat} {x0 : (S1 (List Int))} {r : Int} (h : i_net_all F x0 = some r) : (e59 F).den [Enc.enc x0] = some (Enc.enc (r : Int)) := da_put (f := fun (x : ((S1 (List Int)) × Unit)) => i_net_all F x.1) (t := fun (r : Int) => (Enc.enc (r : Int))) (x0, ()) h
theorem o59 {D : Den} {σ : Sig} {F : Nat} (hF : Fits2 Try.prog D σ) (H : H59 D σ F) : (e59 F).Ok Try.prog := by
  refine ok_of (f := 59) (show unk 59 = 59 from rfl) (fun args r h => ?_) ⟨Try.f59, Try.func59, rfl, rfl⟩
  obtain ⟨⟨x0, _⟩, y, rfl, hy, rfl⟩ := da_open h
  exact contract_run hF (by kernel_rfl) Try.func59 rfl c59 (show 1 ≤ Try.f59.ntmps by decide) (t59 H x0 _ rfl hy)
/- loop.example/g01109/impl.setOf -/
def A60_2 : AC := (AC.cond (O.t 8) AC.skip (AC.exit 0))
def A60_4 : AC := (AC.cond (O.t 15) (AC.reg [.clr [18, 19]] [(I.mk (some 16) none false (X.v (A.mov (O.t 3)))), (I.mk (some 17) none false (X.v (A.mov (O.t 4)))), (I.mk (some 18) none false (X.lit (V.int IntKind.i64 (Int.ofNat 0)) 1 [(0, 0, (O.t 17))])), (I.mk (some 19) none false (X.app Sh.s (O.t 16) (O.t 18))), (I.mk (some 3) none false (X.v (A.mov (O.t 19))))] [.home 19 3]) AC.skip)
def A60_5 : AC := (AC.reg [] [(I.mk (some 9) none false (X.v (A.mov (O.t 4)))), (I.mk (some 10) none false (X.v (A.bin BinOp.add (O.t 9) (O.k (V.int IntKind.i64 (Int.ofNat 1)))))), (I.mk (some 4) none false (X.v (A.mov (O.t 10))))] [])
def A60_3 : AC := (AC.seq (AC.block 1 (AC.seq (AC.reg [] [(I.mk (some 11) none false (X.v (A.mov (O.t 0)))), (I.mk (some 12) none false (X.v (A.mov (O.t 4)))), (I.mk (some 13) none false (X.v (A.bin BinOp.shr (O.t 11) (O.t 12)))), (I.mk (some 14) none false (X.v (A.bin BinOp.and (O.t 13) (O.k (V.int IntKind.i64 (Int.ofNat 1)))))), (I.mk (some 15) none false (X.v (A.bin BinOp.eql (O.t 14) (O.k (V.int IntKind.i64 (Int.ofNat 1))))))] []) A60_4)) A60_5)
def A60_1 : AC := (AC.seq (AC.seq (AC.reg [] [(I.mk (some 5) none false (X.v (A.mov (O.t 0)))), (I.mk (some 6) none false (X.v (A.mov (O.t 4)))), (I.mk (some 7) none false (X.v (A.bin BinOp.shr (O.t 5) (O.t 6)))), (I.mk (some 8) none false (X.v (A.bin BinOp.neq (O.t 7) (O.k (V.int IntKind.i64 (Int.ofNat 0))))))] []) A60_2) A60_3)
def A60_6 : AC := (AC.seq (AC.reg [] [(I.mk (some 20) none false (X.v (A.mov (O.t 3)))), (I.mk (some 2) none false (X.v (A.mov (O.t 20))))] [.home 3 2]) AC.ret)
def A60_9 : AC := (AC.block 0 (AC.loop A60_1))
def A60_8 : AC := (AC.seq (AC.seq (AC.reg [] [(I.mk (some 4) none false (X.v (A.mov (O.k (V.int IntKind.i64 (Int.ofNat 0))))))] []) A60_9) A60_6)
def A60_7 : AC := (AC.seq (AC.reg [] [(I.mk (some 3) none false (X.v (A.mov (O.k (V.sl Tok.nl Sh.s 0 [])))))] []) A60_8)
def A60 : AC := (AC.seq (AC.reg [] [(I.mk (some 2) none false (X.v (A.mov (O.k (V.sl Tok.nl Sh.s 0 [])))))] []) A60_7)
def an60 : List An := [{ id := 6, pre := [.clr [18, 19]], ep := [.home 19 3], lin := [], sp := [] }, { id := 7, pre := [], ep := [.home 3 2], lin := [], sp := [] }]
theorem c60 : cC Try.prog Try.f60.ntmps an60 (Try.f60.body.getD .skip) = some A60 := by kernel_rfl
structure H60 (D : Den) (σ : Sig) (F : Nat) : Prop where
  mk ::
abbrev R60 (r : (List Int)) : (Nat → V) → Prop := RR Try.prog [.tmp 2] 0 false (Enc.enc (r : (List Int)))
section
variable {D : Den} {σ : Sig} {F : Nat} {r : (List Int)}
def i_setOf_j1 (F : Nat) (set_1 : Int) (x_8 : Int) (c1 : (NL Int) → Int → Option (List Int)) (list_17 : (NL Int)) : Option (List Int) :=
  c1 list_17 (w64 (x_8 + 1))
theorem t_f60_j1 (H : H60 D σ F) (set_1 : Int) (x_8 : Int) (c1 : (NL Int) → Int → Option (List Int)) (Hc1 : ∀ (list_7 : (NL Int)) (x_8 : Int) (s : Nat → V), Facts [(0, (.int .i64 set_1)), (2, (.sl .nl (Enc.shp Int) 0 [])), (3, (encO (.at 3 []) (list_7 : NL Int))), (4, (.int .i64 x_8))] s → c1 list_7 x_8 = some r → Run D σ (R60 r) (.run A60_1 [.lp A60_1, .bk 0, .sq A60_6]) s) (list_17 : (NL Int)) (s : Nat → V) (hs : Facts [(0, (.int .i64 set_1)), (2, (.sl .nl (Enc.shp Int) 0 [])), (3, (encO (.at 3 []) (list_17 : NL Int))), (4, (.int .i64 x_8))] s) (h : i_setOf_j1 F set_1 x_8 c1 list_17 = some r) : Run D σ (R60 r) (.nrm [.bk 1, .sq A60_5, .lp A60_1, .bk 0, .sq A60_6]) s := by
  unfold i_setOf_j1 at h
  obtain ⟨h0, h2, h3, h4⟩ := hs
  refine .nbk ?_
  refine .nsq ?_
  refine run_reg ?_
  refine e_end ?_
  refine g_v1 (t := 4) (u := (.int .i64 x_8)) (.int .i64 x_8) h4 rfl rfl ?_
  refine g_v1 (t := 9) (u := (.int .i64 x_8)) (.int .i64 (w64 (x_8 + 1))) rfl rfl rfl ?_
  refine g_v1 (t := 10) (u := (.int .i64 (w64 (x_8 + 1)))) (.int .i64 (w64 (x_8 + 1))) rfl rfl rfl ?_
  refine g_end ?_
  refine e_end ?_
  refine renew [(0, (.int .i64 set_1)), (2, (.sl .nl (Enc.shp Int) 0 [])), (3, (encO (.at 3 []) (list_17 : NL Int))), (4, (.int .i64 (w64 (x_8 + 1))))] ⟨h0, h2, h3, rfl⟩ ?_
  rintro s ⟨h0, h2, h3, h4⟩
  refine .nlp ?_
  exact Hc1 list_17 (w64 (x_8 + 1)) _ ⟨h0, h2, h3, h4⟩ h
def i_setOf_l1 (F : Nat) (set_1 : Int)  : Nat → (NL Int) → Int → Option (List Int)
  | 0, _, _ => none
  | k + 1, list_7, x_8 =>
    (shrI .i64 set_1 x_8).bind fun q_14 =>
    bif (q_14 != 0) then
      (shrI .i64 set_1 x_8).bind fun q_15 =>
      bif ((iand .i64 q_15 1) == 1) then
        (appL list_7.list [x_8]).bind fun ap_18 =>
        i_setOf_j1 F set_1 x_8 (i_setOf_l1 F set_1 k) (.of ap_18)
      else
        i_setOf_j1 F set_1 x_8 (i_setOf_l1 F set_1 k) list_7
    else
      some list_7.list
theorem t_f60_l1 (H : H60 D σ F) (set_1 : Int)  : ∀ (k : Nat) (list_7 : (NL Int)) (x_8 : Int) (s : Nat → V), Facts [(0, (.int .i64 set_1)), (2, (.sl .nl (Enc.shp Int) 0 [])), (3, (encO (.at 3 []) (list_7 : NL Int))), (4, (.int .i64 x_8))] s → i_setOf_l1 F set_1 k list_7 x_8 = some r → Run D σ (R60 r) (.run A60_1 [.lp A60_1, .bk 0, .sq A60_6]) s := by
  intro k
  induction k with
  | zero => intro list_7 x_8 s _ h; exact nomatch (h : (none : Option _) = some r)
  | succ k ih =>
    intro list_7 x_8 s hs h
    rw [i_setOf_l1] at h
    obtain ⟨h0, h2, h3, h4⟩ := hs
    refine .seq ?_
    refine .seq ?_
    refine run_reg ?_
    refine e_end ?_
    refine g_v1 (t := 0) (u := (.int .i64 set_1)) (.int .i64 set_1) h0 rfl rfl ?_
    refine g_v1 (t := 4) (u := (.int .i64 x_8)) (.int .i64 x_8) h4 rfl rfl ?_
    obtain ⟨q_14, E_q_14, h⟩ := bind_some h
    refine g_v (.int .i64 q_14) (ev_shr rfl rfl E_q_14) ?_
    refine g_v1 (t := 7) (u := (.int .i64 q_14)) (.bool (q_14 != 0)) rfl rfl rfl ?_
    refine g_end ?_
    refine e_end ?_
    refine renew [(0, (.int .i64 set_1)), (2, (.sl .nl (Enc.shp Int) 0 [])), (3, (encO (.at 3 []) (list_7 : NL Int))), (4, (.int .i64 x_8)), (8, (.bool (q_14 != 0)))] ⟨h0, h2, h3, h4, rfl⟩ ?_
    rintro s ⟨h0, h2, h3, h4, h8⟩
    refine .nsq ?_
    refine run_cond (t := (q_14 != 0)) h8 h (fun h => ?_) (fun h => ?_)
    · refine .skip ?_
      refine .nsq ?_
      refine .seq ?_
      refine .block ?_
      refine .seq ?_
      refine run_reg ?_
      refine e_end ?_
      refine g_v1 (t := 0) (u := (.int .i64 set_1)) (.int .i64 set_1) h0 rfl rfl ?_
      refine g_v1 (t := 4) (u := (.int .i64 x_8)) (.int .i64 x_8) h4 rfl rfl ?_
      obtain ⟨q_15, E_q_15, h⟩ := bind_some h
      refine g_v (.int .i64 q_15) (ev_shr rfl rfl E_q_15) ?_
      refine g_v1 (t := 13) (u := (.int .i64 q_15)) (.int .i64 (iand .i64 q_15 1)) rfl rfl rfl ?_
      refine g_v1 (t := 14) (u := (.int .i64 (iand .i64 q_15 1))) (.bool ((iand .i64 q_15 1) == 1)) rfl rfl rfl ?_
      refine g_end ?_
      refine e_end ?_
      refine renew [(0, (.int .i64 set_1)), (2, (.sl .nl (Enc.shp Int) 0 [])), (3, (encO (.at 3 []) (list_7 : NL Int))), (4, (.int .i64 x_8)), (15, (.bool ((iand .i64 q_15 1) == 1)))] ⟨h0, h2, h3, h4, rfl⟩ ?_
      rintro s ⟨h0, h2, h3, h4, h15⟩
      refine .nsq ?_
      refine run_cond (t := ((iand .i64 q_15 1) == 1)) h15 h (fun h => ?_) (fun h => ?_)
      · refine run_reg ?_
        refine e_clr ?_
        refine e_end ?_
        refine g_v (encO (.at 3 []) (list_7 : NL Int)) (ev_mov (keep_clear (s := s) (pk := [18, 19]) h3 rfl (map_encO (r := 3) (p := []) rfl rfl)) ok_encO) ?_
        refine g_v1 (t := 4) (u := (.int .i64 x_8)) (.int .i64 x_8) (keep_clear (s := s) (pk := [18, 19]) h4 rfl rfl) rfl rfl ?_
        refine g_litL [(17, (.int .i64 x_8))] [Enc.enc (x_8 : Int)] rfl rfl rfl (gone_clear (s := s) (pk := [18, 19]) (t := 18) rfl) ?_
        obtain ⟨ap_18, E_ap_18, h⟩ := bind_some h
        refine g_app (q := 3) (p := []) (o := (list_7 : NL Int)) (ys := ([x_8] : List Int)) (t2 := (.at 18 [])) (lo2 := 0) rfl rfl rfl (gone_clear (s := s) (pk := [18, 19]) (t := 19) rfl) (appN_L (o := (list_7 : NL Int)) E_ap_18 (by split <;> simp)) (fun s_17 ha_17 => ?_)
        refine g_v1 (t := 19) (u := (encO (.at 19 []) (.of (ap_18 : List Int)))) (encO (.at 19 []) (.of (ap_18 : List Int))) rfl rfl rfl ?_
        refine g_end ?_
        refine e_home (r := 19) (x := 3) (v := (encO (.at 19 []) (.of (ap_18 : List Int)))) (by exact rfl) rfl (fun s_18 hg_18 => ?_)
        refine e_end ?_
        refine renew [(0, (.int .i64 set_1)), (2, (.sl .nl (Enc.shp Int) 0 [])), (3, (encO (.at 3 []) (.of (ap_18 : List Int)))), (4, (.int .i64 x_8))] ⟨(hg_18 0 (.int .i64 set_1) (.int .i64 set_1) (show s_17 0 = (.int .i64 set_1) from keep_app ha_17 (keep_clear (s := s) (pk := [18, 19]) h0 rfl rfl) rfl) rfl), (hg_18 2 (.sl .nl (Enc.shp Int) 0 []) (.sl .nl (Enc.shp Int) 0 []) (show s_17 2 = (.sl .nl (Enc.shp Int) 0 []) from keep_app ha_17 (keep_clear (s := s) (pk := [18, 19]) h2 rfl rfl) rfl) rfl), (hg_18 3 (encO (.at 19 []) (.of (ap_18 : List Int))) (encO (.at 3 []) (.of (ap_18 : List Int))) rfl (map_encO (r := 19) (p := []) rfl rfl)), (hg_18 4 (.int .i64 x_8) (.int .i64 x_8) (show s_17 4 = (.int .i64 x_8) from keep_app ha_17 (keep_clear (s := s) (pk := [18, 19]) h4 rfl rfl) rfl) rfl)⟩ ?_
        rintro s ⟨h0, h2, h3, h4⟩
        exact t_f60_j1 H set_1 x_8 (i_setOf_l1 F set_1 k) ih (.of ap_18) _ ⟨h0, h2, h3, h4⟩ h
      · refine .skip ?_
        exact t_f60_j1 H set_1 x_8 (i_setOf_l1 F set_1 k) ih list_7 _ ⟨h0, h2, h3, h4⟩ h
    · refine .exit ?_
      refine .esq ?_
      refine .elp ?_
      refine .ebk ?_
      refine .nsq ?_
      refine .seq ?_
      refine run_reg ?_
      refine e_end ?_
      refine g_v (encO (.at 3 []) (list_7 : NL Int)) (ev_mov h3 ok_encO) ?_
      refine g_v (encO (.at 3 []) (list_7 : NL Int)) (ev_mov rfl ok_encO) ?_
      refine g_end ?_
      refine e_home (r := 3) (x := 2) (v := (encO (.at 3 []) (list_7 : NL Int))) (by exact rfl) ok_encO (fun s_19 hg_19 => ?_)
      refine e_end ?_
      refine renew [(2, (encO (.at 2 []) (list_7 : NL Int)))] (hg_19 2 (encO (.at 3 []) (list_7 : NL Int)) (encO (.at 2 []) (list_7 : NL Int)) rfl (map_encO (r := 3) (p := []) rfl rfl)) ?_
      rintro s h2
      refine .nsq ?_
      refine .ret ?_
      have hr := Option.some.inj h
      subst hr
      exact rrA (res_tmp h2) (fin_retF (fin_own (o := list_7)) (mine_own rfl))
def i_setOf (F : Nat) (set_1 : Int) : Option (List Int) :=
  i_setOf_l1 F set_1 F .nil 0
theorem t60 (H : H60 D σ F) (set_1 : Int) (s : Nat → V) (hs : Facts [(0, (.int .i64 set_1))] s) (h : i_setOf F set_1 = some r) : Run D σ (R60 r) (.run A60 []) s := by
  unfold i_setOf at h
  have h0 := hs
  refine .seq ?_
  refine run_reg ?_
  refine e_end ?_
  refine g_v0 (.sl .nl (Enc.shp Int) 0 []) rfl rfl ?_
  refine g_end ?_
  refine e_end ?_
  refine renew [(0, (.int .i64 set_1)), (2, (.sl .nl (Enc.shp Int) 0 []))] ⟨h0, rfl⟩ ?_
  rintro s ⟨h0, h2⟩
  refine .nsq ?_
  refine .seq ?_
  refine run_reg ?_
  refine e_end ?_
  refine g_v0 (.sl .nl (Enc.shp Int) 0 []) rfl rfl ?_
  refine g_end ?_
  refine e_end ?_
  refine renew [(0, (.int .i64 set_1)), (2, (.sl .nl (Enc.shp Int) 0 [])), (3, (.sl .nl (Enc.shp Int) 0 []))] ⟨h0, h2, rfl⟩ ?_
  rintro s ⟨h0, h2, h3⟩
  refine .nsq ?_
  refine .seq ?_
  refine .seq ?_
  refine run_reg ?_
  refine e_end ?_
  refine g_v0 (.int .i64 0) rfl rfl ?_
  refine g_end ?_
  refine e_end ?_
  refine renew [(0, (.int .i64 set_1)), (2, (.sl .nl (Enc.shp Int) 0 [])), (3, (.sl .nl (Enc.shp Int) 0 [])), (4, (.int .i64 0))] ⟨h0, h2, h3, rfl⟩ ?_
  rintro s ⟨h0, h2, h3, h4⟩
  refine .nsq ?_
  refine .block ?_
  refine .loop ?_
  exact t_f60_l1 H set_1 F .nil 0 _ ⟨h0, h2, h3, h4⟩ h
end
def e60 (F : Nat) : Ent := ⟨60, da (fun (x : (Int × Unit)) => i_setOf F x.1) (fun (r : (List Int)) => (Enc.enc (r : (List Int)))), 0, false, selF []⟩
theorem p60 {F : Nat} {x0 : Int} {r : (List Int)} (h : i_setOf F x0 = some r) : (e60 F).den [Enc.enc x0] = some (Enc.enc (r : (List Int))) := da_put (f := fun (x : (Int × Unit)) => i_setOf F x.1) (t := fun (r : (List Int)) => (Enc.enc (r : (List Int)))) (x0, ()) h
theorem o60 {D : Den} {σ : Sig} {F : Nat} (hF : Fits2 Try.prog D σ) (H : H60 D σ F) : (e60 F).Ok Try.prog := by
  refine ok_of (f := 60) (show unk 60 = 60 from rfl) (fun args r h => ?_) ⟨Try.f60, Try.func60, rfl, rfl⟩
  obtain ⟨⟨x0, _⟩, y, rfl, hy, rfl⟩ := da_open h
  exact contract_run hF (by kernel_rfl) Try.func60 rfl c60 (show 1 ≤ Try.f60.ntmps by decide) (t60 H x0 _ rfl hy)
/- math/bits.OnesCount64 -/
def A109_7 : AC := (AC.seq (AC.reg [] [(I.mk (some 32) none false (X.v (A.mov (O.t 0)))), (I.mk (some 33) none false (X.v (A.conv IntKind.i64 (O.t 32)))), (I.mk (some 34) none false (X.v (A.bin BinOp.and (O.t 33) (O.k (V.int IntKind.i64 (Int.ofNat 127)))))), (I.mk (some 2) none false (X.v (A.mov (O.t 34))))] []) AC.ret)
def A109_6 : AC := (AC.seq (AC.reg [] [(I.mk (some 28) none false (X.v (A.mov (O.t 0)))), (I.mk (some 29) none false (X.v (A.mov (O.t 0)))), (I.mk (some 30) none false (X.v (A.bin BinOp.shr (O.t 29) (O.k (V.int IntKind.u64 (Int.ofNat 32)))))), (I.mk (some 31) none false (X.v (A.bin BinOp.add (O.t 28) (O.t 30)))), (I.mk (some 0) none false (X.v (A.mov (O.t 31))))] []) A109_7)
def A109_5 : AC := (AC.seq (AC.reg [] [(I.mk (some 24) none false (X.v (A.mov (O.t 0)))), (I.mk (some 25) none false (X.v (A.mov (O.t 0)))), (I.mk (some 26) none false (X.v (A.bin BinOp.shr (O.t 25) (O.k (V.int IntKind.u64 (Int.ofNat 16)))))), (I.mk (some 27) none false (X.v (A.bin BinOp.add (O.t 24) (O.t 26)))), (I.mk (some 0) none false (X.v (A.mov (O.t 27))))] []) A109_6)
def A109_4 : AC := (AC.seq (AC.reg [] [(I.mk (some 20) none false (X.v (A.mov (O.t 0)))), (I.mk (some 21) none false (X.v (A.mov (O.t 0)))), (I.mk (some 22) none false (X.v (A.bin BinOp.shr (O.t 21) (O.k (V.int IntKind.u64 (Int.ofNat 8)))))), (I.mk (some 23) none false (X.v (A.bin BinOp.add (O.t 20) (O.t 22)))), (I.mk (some 0) none false (X.v (A.mov (O.t 23))))] []) A109_5)
def A109_3 : AC := (AC.seq (AC.reg [] [(I.mk (some 15) none false (X.v (A.mov (O.t 0)))), (I.mk (some 16) none false (X.v (A.bin BinOp.shr (O.t 15) (O.k (V.int IntKind.u64 (Int.ofNat 4)))))), (I.mk (some 17) none false (X.v (A.mov (O.t 0)))), (I.mk (some 18) none false (X.v (A.bin BinOp.add (O.t 16) (O.t 17)))), (I.mk (some 19) none false (X.v (A.bin BinOp.and (O.t 18) (O.k (V.int IntKind.u64 (Int.ofNat 1085102592571150095)))))), (I.mk (some 0) none false (X.v (A.mov (O.t 19))))] []) A109_4)
def A109_2 : AC := (AC.seq (AC.reg [] [(I.mk (some 9) none false (X.v (A.mov (O.t 0)))), (I.mk (some 10) none false (X.v (A.bin BinOp.shr (O.t 9) (O.k (V.int IntKind.u64 (Int.ofNat 2)))))), (I.mk (some 11) none false (X.v (A.bin BinOp.and (O.t 10) (O.k (V.int IntKind.u64 (Int.ofNat 3689348814741910323)))))), (I.mk (some 12) none false (X.v (A.mov (O.t 0)))), (I.mk (some 13) none false (X.v (A.bin BinOp.and (O.t 12) (O.k (V.int IntKind.u64 (Int.ofNat 3689348814741910323)))))), (I.mk (some 14) none false (X.v (A.bin BinOp.add (O.t 11) (O.t 13)))), (I.mk (some 0) none false (X.v (A.mov (O.t 14))))] []) A109_3)
def A109_1 : AC := (AC.seq (AC.reg [] [(I.mk (some 3) none false (X.v (A.mov (O.t 0)))), (I.mk (some 4) none false (X.v (A.bin BinOp.shr (O.t 3) (O.k (V.int IntKind.u64 (Int.ofNat 1)))))), (I.mk (some 5) none false (X.v (A.bin BinOp.and (O.t 4) (O.k (V.int IntKind.u64 (Int.ofNat 6148914691236517205)))))), (I.mk (some 6) none false (X.v (A.mov (O.t 0)))), (I.mk (some 7) none false (X.v (A.bin BinOp.and (O.t 6) (O.k (V.int IntKind.u64 (Int.ofNat 6148914691236517205)))))), (I.mk (some 8) none false (X.v (A.bin BinOp.add (O.t 5) (O.t 7)))), (I.mk (some 0) none false (X.v (A.mov (O.t 8))))] []) A109_2)
def A109 : AC := (AC.seq (AC.reg [] [(I.mk (some 2) none false (X.v (A.mov (O.k (V.int IntKind.i64 (Int.ofNat 0))))))] []) A109_1)
def an109 : List An := []
theorem c109 : cC Try.prog Try.f109.ntmps an109 (Try.f109.body.getD .skip) = some A109 := by kernel_rfl
structure H109 (D : Den) (σ : Sig) (F : Nat) : Prop where
  mk ::
abbrev R109 (r : Int) : (Nat → V) → Prop := RR Try.prog [.tmp 2] 0 false (Enc.enc (r : Int))
section
variable {D : Den} {σ : Sig} {F : Nat} {r : Int}
def bits_OnesCount64 (F : Nat) (x_1 : (Kd .u64)) : Option Int :=
  (shrI .u64 x_1.v 1).bind fun q_2 =>
  (shrI .u64 (IntKind.u64.wrap ((iand .u64 q_2 6148914691236517205) + (iand .u64 x_1.v 6148914691236517205))) 2).bind fun q_3 =>
  (shrI .u64 (IntKind.u64.wrap ((iand .u64 q_3 3689348814741910323) + (iand .u64 (IntKind.u64.wrap ((iand .u64 q_2 6148914691236517205) + (iand .u64 x_1.v 6148914691236517205))) 3689348814741910323))) 4).bind fun q_4 =>
  (shrI .u64 (iand .u64 (IntKind.u64.wrap (q_4 + (IntKind.u64.wrap ((iand .u64 q_3 3689348814741910323) + (iand .u64 (IntKind.u64.wrap ((iand .u64 q_2 6148914691236517205) + (iand .u64 x_1.v 6148914691236517205))) 3689348814741910323))))) 1085102592571150095) 8).bind fun q_5 =>
  (shrI .u64 (IntKind.u64.wrap ((iand .u64 (IntKind.u64.wrap (q_4 + (IntKind.u64.wrap ((iand .u64 q_3 3689348814741910323) + (iand .u64 (IntKind.u64.wrap ((iand .u64 q_2 6148914691236517205) + (iand .u64 x_1.v 6148914691236517205))) 3689348814741910323))))) 1085102592571150095) + q_5)) 16).bind fun q_6 =>
  (shrI .u64 (IntKind.u64.wrap ((IntKind.u64.wrap ((iand .u64 (IntKind.u64.wrap (q_4 + (IntKind.u64.wrap ((iand .u64 q_3 3689348814741910323) + (iand .u64 (IntKind.u64.wrap ((iand .u64 q_2 6148914691236517205) + (iand .u64 x_1.v 6148914691236517205))) 3689348814741910323))))) 1085102592571150095) + q_5)) + q_6)) 32).bind fun q_7 =>
  some (iand .i64 (w64 (IntKind.u64.wrap ((IntKind.u64.wrap ((IntKind.u64.wrap ((iand .u64 (IntKind.u64.wrap (q_4 + (IntKind.u64.wrap ((iand .u64 q_3 3689348814741910323) + (iand .u64 (IntKind.u64.wrap ((iand .u64 q_2 6148914691236517205) + (iand .u64 x_1.v 6148914691236517205))) 3689348814741910323))))) 1085102592571150095) + q_5)) + q_6)) + q_7))) 127)
theorem t109 (H : H109 D σ F) (x_1 : (Kd .u64)) (s : Nat → V) (hs : Facts [(0, (.int .u64 x_1.v))] s) (h : bits_OnesCount64 F x_1 = some r) : Run D σ (R109 r) (.run A109 []) s := by
  unfold bits_OnesCount64 at h
  have h0 := hs
  refine .seq ?_
  refine run_reg ?_
  refine e_end ?_
  refine g_v0 (.int .i64 0) rfl rfl ?_
  refine g_end ?_
  refine e_end ?_
  refine renew [(0, (.int .u64 x_1.v)), (2, (.int .i64 0))] ⟨h0, rfl⟩ ?_
  rintro s ⟨h0, h2⟩
  refine .nsq ?_
  refine .seq ?_
  refine run_reg ?_
  refine e_end ?_
  refine g_v1 (t := 0) (u := (.int .u64 x_1.v)) (.int .u64 x_1.v) h0 rfl rfl ?_
  obtain ⟨q_2, E_q_2, h⟩ := bind_some h
  refine g_v (.int .u64 q_2) (ev_shr rfl rfl E_q_2) ?_
  refine g_v1 (t := 4) (u := (.int .u64 q_2)) (.int .u64 (iand .u64 q_2 6148914691236517205)) rfl rfl rfl ?_
  refine g_v1 (t := 0) (u := (.int .u64 x_1.v)) (.int .u64 x_1.v) h0 rfl rfl ?_
  refine g_v1 (t := 6) (u := (.int .u64 x_1.v)) (.int .u64 (iand .u64 x_1.v 6148914691236517205)) rfl rfl rfl ?_
  refine g_v2 (t1 := 5) (t2 := 7) (u1 := (.int .u64 (iand .u64 q_2 6148914691236517205))) (u2 := (.int .u64 (iand .u64 x_1.v 6148914691236517205))) (.int .u64 (IntKind.u64.wrap ((iand .u64 q_2 6148914691236517205) + (iand .u64 x_1.v 6148914691236517205)))) rfl rfl rfl rfl ?_
  refine g_v1 (t := 8) (u := (.int .u64 (IntKind.u64.wrap ((iand .u64 q_2 6148914691236517205) + (iand .u64 x_1.v 6148914691236517205))))) (.int .u64 (IntKind.u64.wrap ((iand .u64 q_2 6148914691236517205) + (iand .u64 x_1.v 6148914691236517205)))) rfl rfl rfl ?_
  refine g_end ?_
  refine e_end ?_
  refine renew [(0, (.int .u64 (IntKind.u64.wrap ((iand .u64 q_2 6148914691236517205) + (iand .u64 x_1.v 6148914691236517205))))), (2, (.int .i64 0))] ⟨rfl, h2⟩ ?_
  rintro s ⟨h0, h2⟩
  refine .nsq ?_
  refine .seq ?_
  refine run_reg ?_
  refine e_end ?_
  refine g_v1 (t := 0) (u := (.int .u64 (IntKind.u64.wrap ((iand .u64 q_2 6148914691236517205) + (iand .u64 x_1.v 6148914691236517205))))) (.int .u64 (IntKind.u64.wrap ((iand .u64 q_2 6148914691236517205) + (iand .u64 x_1.v 6148914691236517205)))) h0 rfl rfl ?_
  obtain ⟨q_3, E_q_3, h⟩ := bind_some h
  refine g_v (.int .u64 q_3) (ev_shr rfl rfl E_q_3) ?_
  refine g_v1 (t := 10) (u := (.int .u64 q_3)) (.int .u64 (iand .u64 q_3 3689348814741910323)) rfl rfl rfl ?_
  refine g_v1 (t := 0) (u := (.int .u64 (IntKind.u64.wrap ((iand .u64 q_2 6148914691236517205) + (iand .u64 x_1.v 6148914691236517205))))) (.int .u64 (IntKind.u64.wrap ((iand .u64 q_2 6148914691236517205) + (iand .u64 x_1.v 6148914691236517205)))) h0 rfl rfl ?_
  refine g_v1 (t := 12) (u := (.int .u64 (IntKind.u64.wrap ((iand .u64 q_2 6148914691236517205) + (iand .u64 x_1.v 6148914691236517205))))) (.int .u64 (iand .u64 (IntKind.u64.wrap ((iand .u64 q_2 6148914691236517205) + (iand .u64 x_1.v 6148914691236517205))) 3689348814741910323)) rfl rfl rfl ?_
  refine g_v2 (t1 := 11) (t2 := 13) (u1 := (.int .u64 (iand .u64 q_3 3689348814741910323))) (u2 := (.int .u64 (iand .u64 (IntKind.u64.wrap ((iand .u64 q_2 6148914691236517205) + (iand .u64 x_1.v 6148914691236517205))) 3689348814741910323))) (.int .u64 (IntKind.u64.wrap ((iand .u64 q_3 3689348814741910323) + (iand .u64 (IntKind.u64.wrap ((iand .u64 q_2 6148914691236517205) + (iand .u64 x_1.v 6148914691236517205))) 3689348814741910323)))) rfl rfl rfl rfl ?_
  refine g_v1 (t := 14) (u := (.int .u64 (IntKind.u64.wrap ((iand .u64 q_3 3689348814741910323) + (iand .u64 (IntKind.u64.wrap ((iand .u64 q_2 6148914691236517205) + (iand .u64 x_1.v 6148914691236517205))) 3689348814741910323))))) (.int .u64 (IntKind.u64.wrap ((iand .u64 q_3 3689348814741910323) + (iand .u64 (IntKind.u64.wrap ((iand .u64 q_2 6148914691236517205) + (iand .u64 x_1.v 6148914691236517205))) 3689348814741910323)))) rfl rfl rfl ?_
  refine g_end ?_
  refine e_end ?_
  refine renew [(0, (.int .u64 (IntKind.u64.wrap ((iand .u64 q_3 3689348814741910323) + (iand .u64 (IntKind.u64.wrap ((iand .u64 q_2 6148914691236517205) + (iand .u64 x_1.v 6148914691236517205))) 3689348814741910323))))), (2, (.int .i64 0))] ⟨rfl, h2⟩ ?_
  rintro s ⟨h0, h2⟩
  refine .nsq ?_
  refine .seq ?_
  refine run_reg ?_
  refine e_end ?_
  refine g_v1 (t := 0) (u := (.int .u64 (IntKind.u64.wrap ((iand .u64 q_3 3689348814741910323) + (iand .u64 (IntKind.u64.wrap ((iand .u64 q_2 6148914691236517205) + (iand .u64 x_1.v 6148914691236517205))) 3689348814741910323))))) (.int .u64 (IntKind.u64.wrap ((iand .u64 q_3 3689348814741910323) + (iand .u64 (IntKind.u64.wrap ((iand .u64 q_2 6148914691236517205) + (iand .u64 x_1.v 6148914691236517205))) 3689348814741910323)))) h0 rfl rfl ?_
  obtain ⟨q_4, E_q_4, h⟩ := bind_some h
  refine g_v (.int .u64 q_4) (ev_shr rfl rfl E_q_4) ?_
  refine g_v1 (t := 0) (u := (.int .u64 (IntKind.u64.wrap ((iand .u64 q_3 3689348814741910323) + (iand .u64 (IntKind.u64.wrap ((iand .u64 q_2 6148914691236517205) + (iand .u64 x_1.v 6148914691236517205))) 3689348814741910323))))) (.int .u64 (IntKind.u64.wrap ((iand .u64 q_3 3689348814741910323) + (iand .u64 (IntKind.u64.wrap ((iand .u64 q_2 6148914691236517205) + (iand .u64 x_1.v 6148914691236517205))) 3689348814741910323)))) h0 rfl rfl ?_
  refine g_v2 (t1 := 16) (t2 := 17) (u1 := (.int .u64 q_4)) (u2 := (.int .u64 (IntKind.u64.wrap ((iand .u64 q_3 3689348814741910323) + (iand .u64 (IntKind.u64.wrap ((iand .u64 q_2 6148914691236517205) + (iand .u64 x_1.v 6148914691236517205))) 3689348814741910323))))) (.int .u64 (IntKind.u64.wrap (q_4 + (IntKind.u64.wrap ((iand .u64 q_3 3689348814741910323) + (iand .u64 (IntKind.u64.wrap ((iand .u64 q_2 6148914691236517205) + (iand .u64 x_1.v 6148914691236517205))) 3689348814741910323)))))) rfl rfl rfl rfl ?_
  refine g_v1 (t := 18) (u := (.int .u64 (IntKind.u64.wrap (q_4 + (IntKind.u64.wrap ((iand .u64 q_3 3689348814741910323) + (iand .u64 (IntKind.u64.wrap ((iand .u64 q_2 6148914691236517205) + (iand .u64 x_1.v 6148914691236517205))) 3689348814741910323))))))) (.int .u64 (iand .u64 (IntKind.u64.wrap (q_4 + (IntKind.u64.wrap ((iand .u64 q_3 3689348814741910323) + (iand .u64 (IntKind.u64.wrap ((iand .u64 q_2 6148914691236517205) + (iand .u64 x_1.v 6148914691236517205))) 3689348814741910323))))) 1085102592571150095)) rfl rfl rfl ?_
  refine g_v1 (t := 19) (u := (.int .u64 (iand .u64 (IntKind.u64.wrap (q_4 + (IntKind.u64.wrap ((iand .u64 q_3 3689348814741910323) + (iand .u64 (IntKind.u64.wrap ((iand .u64 q_2 6148914691236517205) + (iand .u64 x_1.v 6148914691236517205))) 3689348814741910323))))) 1085102592571150095))) (.int .u64 (iand .u64 (IntKind.u64.wrap (q_4 + (IntKind.u64.wrap ((iand .u64 q_3 3689348814741910323) + (iand .u64 (IntKind.u64.wrap ((iand .u64 q_2 6148914691236517205) + (iand .u64 x_1.v 6148914691236517205))) 3689348814741910323))))) 1085102592571150095)) rfl rfl rfl ?_
  refine g_end ?_
  refine e_end ?_
  refine renew [(0, (.int .u64 (iand .u64 (IntKind.u64.wrap (q_4 + (IntKind.u64.wrap ((iand .u64 q_3 3689348814741910323) + (iand .u64 (IntKind.u64.wrap ((iand .u64 q_2 6148914691236517205) + (iand .u64 x_1.v 6148914691236517205))) 3689348814741910323))))) 1085102592571150095))), (2, (.int .i64 0))] ⟨rfl, h2⟩ ?_
  rintro s ⟨h0, h2⟩
  refine .nsq ?_
  refine .seq ?_
  refine run_reg ?_
  refine e_end ?_
  refine g_v1 (t := 0) (u := (.int .u64 (iand .u64 (IntKind.u64.wrap (q_4 + (IntKind.u64.wrap ((iand .u64 q_3 3689348814741910323) + (iand .u64 (IntKind.u64.wrap ((iand .u64 q_2 6148914691236517205) + (iand .u64 x_1.v 6148914691236517205))) 3689348814741910323))))) 1085102592571150095))) (.int .u64 (iand .u64 (IntKind.u64.wrap (q_4 + (IntKind.u64.wrap ((iand .u64 q_3 3689348814741910323) + (iand .u64 (IntKind.u64.wrap ((iand .u64 q_2 6148914691236517205) + (iand .u64 x_1.v 6148914691236517205))) 3689348814741910323))))) 1085102592571150095)) h0 rfl rfl ?_
  refine g_v1 (t := 0) (u := (.int .u64 (iand .u64 (IntKind.u64.wrap (q_4 + (IntKind.u64.wrap ((iand .u64 q_3 3689348814741910323) + (iand .u64 (IntKind.u64.wrap ((iand .u64 q_2 6148914691236517205) + (iand .u64 x_1.v 6148914691236517205))) 3689348814741910323))))) 1085102592571150095))) (.int .u64 (iand .u64 (IntKind.u64.wrap (q_4 + (IntKind.u64.wrap ((iand .u64 q_3 3689348814741910323) + (iand .u64 (IntKind.u64.wrap ((iand .u64 q_2 6148914691236517205) + (iand .u64 x_1.v 6148914691236517205))) 3689348814741910323))))) 1085102592571150095)) h0 rfl rfl ?_
  obtain ⟨q_5, E_q_5, h⟩ := bind_some h
  refine g_v (.int .u64 q_5) (ev_shr rfl rfl E_q_5) ?_
  refine g_v2 (t1 := 20) (t2 := 22) (u1 := (.int .u64 (iand .u64 (IntKind.u64.wrap (q_4 + (IntKind.u64.wrap ((iand .u64 q_3 3689348814741910323) + (iand .u64 (IntKind.u64.wrap ((iand .u64 q_2 6148914691236517205) + (iand .u64 x_1.v 6148914691236517205))) 3689348814741910323))))) 1085102592571150095))) (u2 := (.int .u64 q_5)) (.int .u64 (IntKind.u64.wrap ((iand .u64 (IntKind.u64.wrap (q_4 + (IntKind.u64.wrap ((iand .u64 q_3 3689348814741910323) + (iand .u64 (IntKind.u64.wrap ((iand .u64 q_2 6148914691236517205) + (iand .u64 x_1.v 6148914691236517205))) 3689348814741910323))))) 1085102592571150095) + q_5))) rfl rfl rfl rfl ?_
  refine g_v1 (t := 23) (u := (.int .u64 (IntKind.u64.wrap ((iand .u64 (IntKind.u64.wrap (q_4 + (IntKind.u64.wrap ((iand .u64 q_3 3689348814741910323) + (iand .u64 (IntKind.u64.wrap ((iand .u64 q_2 6148914691236517205) + (iand .u64 x_1.v 6148914691236517205))) 3689348814741910323))))) 1085102592571150095) + q_5)))) (.int .u64 (IntKind.u64.wrap ((iand .u64 (IntKind.u64.wrap (q_4 + (IntKind.u64.wrap ((iand .u64 q_3 3689348814741910323) + (iand .u64 (IntKind.u64.wrap ((iand .u64 q_2 6148914691236517205) + (iand .u64 x_1.v 6148914691236517205))) 3689348814741910323))))) 1085102592571150095) + q_5))) rfl rfl rfl ?_
  refine g_end ?_
  refine e_end ?_
  refine renew [(0, (.int .u64 (IntKind.u64.wrap ((iand .u64 (IntKind.u64.wrap (q_4 + (IntKind.u64.wrap ((iand .u64 q_3 3689348814741910323) + (iand .u64 (IntKind.u64.wrap ((iand .u64 q_2 6148914691236517205) + (iand .u64 x_1.v 6148914691236517205))) 3689348814741910323))))) 1085102592571150095) + q_5)))), (2, (.int .i64 0))] ⟨rfl, h2⟩ ?_
  rintro s ⟨h0, h2⟩
  refine .nsq ?_
  refine .seq ?_
  refine run_reg ?_
  refine e_end ?_
  refine g_v1 (t := 0) (u := (.int .u64 (IntKind.u64.wrap ((iand .u64 (IntKind.u64.wrap (q_4 + (IntKind.u64.wrap ((iand .u64 q_3 3689348814741910323) + (iand .u64 (IntKind.u64.wrap ((iand .u64 q_2 6148914691236517205) + (iand .u64 x_1.v 6148914691236517205))) 3689348814741910323))))) 1085102592571150095) + q_5)))) (.int .u64 (IntKind.u64.wrap ((iand .u64 (IntKind.u64.wrap (q_4 + (IntKind.u64.wrap ((iand .u64 q_3 3689348814741910323) + (iand .u64 (IntKind.u64.wrap ((iand .u64 q_2 6148914691236517205) + (iand .u64 x_1.v 6148914691236517205))) 3689348814741910323))))) 1085102592571150095) + q_5))) h0 rfl rfl ?_
  refine g_v1 (t := 0) (u := (.int .u64 (IntKind.u64.wrap ((iand .u64 (IntKind.u64.wrap (q_4 + (IntKind.u64.wrap ((iand .u64 q_3 3689348814741910323) + (iand .u64 (IntKind.u64.wrap ((iand .u64 q_2 6148914691236517205) + (iand .u64 x_1.v 6148914691236517205))) 3689348814741910323))))) 1085102592571150095) + q_5)))) (.int .u64 (IntKind.u64.wrap ((iand .u64 (IntKind.u64.wrap (q_4 + (IntKind.u64.wrap ((iand .u64 q_3 3689348814741910323) + (iand .u64 (IntKind.u64.wrap ((iand .u64 q_2 6148914691236517205) + (iand .u64 x_1.v 6148914691236517205))) 3689348814741910323))))) 1085102592571150095) + q_5))) h0 rfl rfl ?_
  obtain ⟨q_6, E_q_6, h⟩ := bind_some h
  refine g_v (.int .u64 q_6) (ev_shr rfl rfl E_q_6) ?_
  refine g_v2 (t1 := 24) (t2 := 26) (u1 := (.int .u64 (IntKind.u64.wrap ((iand .u64 (IntKind.u64.wrap (q_4 + (IntKind.u64.wrap ((iand .u64 q_3 3689348814741910323) + (iand .u64 (IntKind.u64.wrap ((iand .u64 q_2 6148914691236517205) + (iand .u64 x_1.v 6148914691236517205))) 3689348814741910323))))) 1085102592571150095) + q_5)))) (u2 := (.int .u64 q_6)) (.int .u64 (IntKind.u64.wrap ((IntKind.u64.wrap ((iand .u64 (IntKind.u64.wrap (q_4 + (IntKind.u64.wrap ((iand .u64 q_3 3689348814741910323) + (iand .u64 (IntKind.u64.wrap ((iand .u64 q_2 6148914691236517205) + (iand .u64 x_1.v 6148914691236517205))) 3689348814741910323))))) 1085102592571150095) + q_5)) + q_6))) rfl rfl rfl rfl ?_
  refine g_v1 (t := 27) (u := (.int .u64 (IntKind.u64.wrap ((IntKind.u64.wrap ((iand .u64 (IntKind.u64.wrap (q_4 + (IntKind.u64.wrap ((iand .u64 q_3 3689348814741910323) + (iand .u64 (IntKind.u64.wrap ((iand .u64 q_2 6148914691236517205) + (iand .u64 x_1.v 6148914691236517205))) 3689348814741910323))))) 1085102592571150095) + q_5)) + q_6)))) (.int .u64 (IntKind.u64.wrap ((IntKind.u64.wrap ((iand .u64 (IntKind.u64.wrap (q_4 + (IntKind.u64.wrap ((iand .u64 q_3 3689348814741910323) + (iand .u64 (IntKind.u64.wrap ((iand .u64 q_2 6148914691236517205) + (iand .u64 x_1.v 6148914691236517205))) 3689348814741910323))))) 1085102592571150095) + q_5)) + q_6))) rfl rfl rfl ?_
  refine g_end ?_
  refine e_end ?_
  refine renew [(0, (.int .u64 (IntKind.u64.wrap ((IntKind.u64.wrap ((iand .u64 (IntKind.u64.wrap (q_4 + (IntKind.u64.wrap ((iand .u64 q_3 3689348814741910323) + (iand .u64 (IntKind.u64.wrap ((iand .u64 q_2 6148914691236517205) + (iand .u64 x_1.v 6148914691236517205))) 3689348814741910323))))) 1085102592571150095) + q_5)) + q_6)))), (2, (.int .i64 0))] ⟨rfl, h2⟩ ?_
  rintro s ⟨h0, h2⟩
  refine .nsq ?_
  refine .seq ?_
  refine run_reg ?_
  refine e_end ?_
  refine g_v1 (t := 0) (u := (.int .u64 (IntKind.u64.wrap ((IntKind.u64.wrap ((iand .u64 (IntKind.u64.wrap (q_4 + (IntKind.u64.wrap ((iand .u64 q_3 3689348814741910323) + (iand .u64 (IntKind.u64.wrap ((iand .u64 q_2 6148914691236517205) + (iand .u64 x_1.v 6148914691236517205))) 3689348814741910323))))) 1085102592571150095) + q_5)) + q_6)))) (.int .u64 (IntKind.u64.wrap ((IntKind.u64.wrap ((iand .u64 (IntKind.u64.wrap (q_4 + (IntKind.u64.wrap ((iand .u64 q_3 3689348814741910323) + (iand .u64 (IntKind.u64.wrap ((iand .u64 q_2 6148914691236517205) + (iand .u64 x_1.v 6148914691236517205))) 3689348814741910323))))) 1085102592571150095) + q_5)) + q_6))) h0 rfl rfl ?_
  refine g_v1 (t := 0) (u := (.int .u64 (IntKind.u64.wrap ((IntKind.u64.wrap ((iand .u64 (IntKind.u64.wrap (q_4 + (IntKind.u64.wrap ((iand .u64 q_3 3689348814741910323) + (iand .u64 (IntKind.u64.wrap ((iand .u64 q_2 6148914691236517205) + (iand .u64 x_1.v 6148914691236517205))) 3689348814741910323))))) 1085102592571150095) + q_5)) + q_6)))) (.int .u64 (IntKind.u64.wrap ((IntKind.u64.wrap ((iand .u64 (IntKind.u64.wrap (q_4 + (IntKind.u64.wrap ((iand .u64 q_3 3689348814741910323) + (iand .u64 (IntKind.u64.wrap ((iand .u64 q_2 6148914691236517205) + (iand .u64 x_1.v 6148914691236517205))) 3689348814741910323))))) 1085102592571150095) + q_5)) + q_6))) h0 rfl rfl ?_
  obtain ⟨q_7, E_q_7, h⟩ := bind_some h
  refine g_v (.int .u64 q_7) (ev_shr rfl rfl E_q_7) ?_
  refine g_v2 (t1 := 28) (t2 := 30) (u1 := (.int .u64 (IntKind.u64.wrap ((IntKind.u64.wrap ((iand .u64 (IntKind.u64.wrap (q_4 + (IntKind.u64.wrap ((iand .u64 q_3 3689348814741910323) + (iand .u64 (IntKind.u64.wrap ((iand .u64 q_2 6148914691236517205) + (iand .u64 x_1.v 6148914691236517205))) 3689348814741910323))))) 1085102592571150095) + q_5)) + q_6)))) (u2 := (.int .u64 q_7)) (.int .u64 (IntKind.u64.wrap ((IntKind.u64.wrap ((IntKind.u64.wrap ((iand .u64 (IntKind.u64.wrap (q_4 + (IntKind.u64.wrap ((iand .u64 q_3 3689348814741910323) + (iand .u64 (IntKind.u64.wrap ((iand .u64 q_2 6148914691236517205) + (iand .u64 x_1.v 6148914691236517205))) 3689348814741910323))))) 1085102592571150095) + q_5)) + q_6)) + q_7))) rfl rfl rfl rfl ?_
  refine g_v1 (t := 31) (u := (.int .u64 (IntKind.u64.wrap ((IntKind.u64.wrap ((IntKind.u64.wrap ((iand .u64 (IntKind.u64.wrap (q_4 + (IntKind.u64.wrap ((iand .u64 q_3 3689348814741910323) + (iand .u64 (IntKind.u64.wrap ((iand .u64 q_2 6148914691236517205) + (iand .u64 x_1.v 6148914691236517205))) 3689348814741910323))))) 1085102592571150095) + q_5)) + q_6)) + q_7)))) (.int .u64 (IntKind.u64.wrap ((IntKind.u64.wrap ((IntKind.u64.wrap ((iand .u64 (IntKind.u64.wrap (q_4 + (IntKind.u64.wrap ((iand .u64 q_3 3689348814741910323) + (iand .u64 (IntKind.u64.wrap ((iand .u64 q_2 6148914691236517205) + (iand .u64 x_1.v 6148914691236517205))) 3689348814741910323))))) 1085102592571150095) + q_5)) + q_6)) + q_7))) rfl rfl rfl ?_
  refine g_end ?_
  refine e_end ?_
  refine renew [(0, (.int .u64 (IntKind.u64.wrap ((IntKind.u64.wrap ((IntKind.u64.wrap ((iand .u64 (IntKind.u64.wrap (q_4 + (IntKind.u64.wrap ((iand .u64 q_3 3689348814741910323) + (iand .u64 (IntKind.u64.wrap ((iand .u64 q_2 6148914691236517205) + (iand .u64 x_1.v 6148914691236517205))) 3689348814741910323))))) 1085102592571150095) + q_5)) + q_6)) + q_7)))), (2, (.int .i64 0))] ⟨rfl, h2⟩ ?_
  rintro s ⟨h0, h2⟩
  refine .nsq ?_
  refine .seq ?_
  refine run_reg ?_
  refine e_end ?_
  refine g_v1 (t := 0) (u := (.int .u64 (IntKind.u64.wrap ((IntKind.u64.wrap ((IntKind.u64.wrap ((iand .u64 (IntKind.u64.wrap (q_4 + (IntKind.u64.wrap ((iand .u64 q_3 3689348814741910323) + (iand .u64 (IntKind.u64.wrap ((iand .u64 q_2 6148914691236517205) + (iand .u64 x_1.v 6148914691236517205))) 3689348814741910323))))) 1085102592571150095) + q_5)) + q_6)) + q_7)))) (.int .u64 (IntKind.u64.wrap ((IntKind.u64.wrap ((IntKind.u64.wrap ((iand .u64 (IntKind.u64.wrap (q_4 + (IntKind.u64.wrap ((iand .u64 q_3 3689348814741910323) + (iand .u64 (IntKind.u64.wrap ((iand .u64 q_2 6148914691236517205) + (iand .u64 x_1.v 6148914691236517205))) 3689348814741910323))))) 1085102592571150095) + q_5)) + q_6)) + q_7))) h0 rfl rfl ?_
  refine g_v1 (t := 32) (u := (.int .u64 (IntKind.u64.wrap ((IntKind.u64.wrap ((IntKind.u64.wrap ((iand .u64 (IntKind.u64.wrap (q_4 + (IntKind.u64.wrap ((iand .u64 q_3 3689348814741910323) + (iand .u64 (IntKind.u64.wrap ((iand .u64 q_2 6148914691236517205) + (iand .u64 x_1.v 6148914691236517205))) 3689348814741910323))))) 1085102592571150095) + q_5)) + q_6)) + q_7)))) (.int .i64 (w64 (IntKind.u64.wrap ((IntKind.u64.wrap ((IntKind.u64.wrap ((iand .u64 (IntKind.u64.wrap (q_4 + (IntKind.u64.wrap ((iand .u64 q_3 3689348814741910323) + (iand .u64 (IntKind.u64.wrap ((iand .u64 q_2 6148914691236517205) + (iand .u64 x_1.v 6148914691236517205))) 3689348814741910323))))) 1085102592571150095) + q_5)) + q_6)) + q_7)))) rfl rfl rfl ?_
  refine g_v1 (t := 33) (u := (.int .i64 (w64 (IntKind.u64.wrap ((IntKind.u64.wrap ((IntKind.u64.wrap ((iand .u64 (IntKind.u64.wrap (q_4 + (IntKind.u64.wrap ((iand .u64 q_3 3689348814741910323) + (iand .u64 (IntKind.u64.wrap ((iand .u64 q_2 6148914691236517205) + (iand .u64 x_1.v 6148914691236517205))) 3689348814741910323))))) 1085102592571150095) + q_5)) + q_6)) + q_7))))) (.int .i64 (iand .i64 (w64 (IntKind.u64.wrap ((IntKind.u64.wrap ((IntKind.u64.wrap ((iand .u64 (IntKind.u64.wrap (q_4 + (IntKind.u64.wrap ((iand .u64 q_3 3689348814741910323) + (iand .u64 (IntKind.u64.wrap ((iand .u64 q_2 6148914691236517205) + (iand .u64 x_1.v 6148914691236517205))) 3689348814741910323))))) 1085102592571150095) + q_5)) + q_6)) + q_7))) 127)) rfl rfl rfl ?_
  refine g_v1 (t := 34) (u := (.int .i64 (iand .i64 (w64 (IntKind.u64.wrap ((IntKind.u64.wrap ((IntKind.u64.wrap ((iand .u64 (IntKind.u64.wrap (q_4 + (IntKind.u64.wrap ((iand .u64 q_3 3689348814741910323) + (iand .u64 (IntKind.u64.wrap ((iand .u64 q_2 6148914691236517205) + (iand .u64 x_1.v 6148914691236517205))) 3689348814741910323))))) 1085102592571150095) + q_5)) + q_6)) + q_7))) 127))) (.int .i64 (iand .i64 (w64 (IntKind.u64.wrap ((IntKind.u64.wrap ((IntKind.u64.wrap ((iand .u64 (IntKind.u64.wrap (q_4 + (IntKind.u64.wrap ((iand .u64 q_3 3689348814741910323) + (iand .u64 (IntKind.u64.wrap ((iand .u64 q_2 6148914691236517205) + (iand .u64 x_1.v 6148914691236517205))) 3689348814741910323))))) 1085102592571150095) + q_5)) + q_6)) + q_7))) 127)) rfl rfl rfl ?_
  refine g_end ?_
  refine e_end ?_
  refine renew [(2, (.int .i64 (iand .i64 (w64 (IntKind.u64.wrap ((IntKind.u64.wrap ((IntKind.u64.wrap ((iand .u64 (IntKind.u64.wrap (q_4 + (IntKind.u64.wrap ((iand .u64 q_3 3689348814741910323) + (iand .u64 (IntKind.u64.wrap ((iand .u64 q_2 6148914691236517205) + (iand .u64 x_1.v 6148914691236517205))) 3689348814741910323))))) 1085102592571150095) + q_5)) + q_6)) + q_7))) 127)))] rfl ?_
  rintro s h2
  refine .nsq ?_
  refine .ret ?_
  have hr := Option.some.inj h
  subst hr
  exact rrA (res_tmp h2) rfl
end
def e109 (F : Nat) : Ent := ⟨109, da (fun (x : ((Kd .u64) × Unit)) => bits_OnesCount64 F x.1) (fun (r : Int) => (Enc.enc (r : Int))), 0, false, selF []⟩
theorem p109 {F : Nat} {x0 : (Kd .u64)} {r : Int} (h : bits_OnesCount64 F x0 = some r) : (e109 F).den [Enc.enc x0] = some (Enc.enc (r : Int)) := da_put (f := fun (x : ((Kd .u64) × Unit)) => bits_OnesCount64 F x.1) (t := fun (r : Int) => (Enc.enc (r : Int))) (x0, ()) h
theorem o109 {D : Den} {σ : Sig} {F : Nat} (hF : Fits2 Try.prog D σ) (H : H109 D σ F) : (e109 F).Ok Try.prog := by
  refine ok_of (f := 109) (show unk 109 = 109 from rfl) (fun args r h => ?_) ⟨Try.f109, Try.func109, rfl, rfl⟩
  obtain ⟨⟨x0, _⟩, y, rfl, hy, rfl⟩ := da_open h
  exact contract_run hF (by kernel_rfl) Try.func109 rfl c109 (show 1 ≤ Try.f109.ntmps by decide) (t109 H x0 _ rfl hy)
/- math/bits.OnesCount -/
def A67_2 : AC := (AC.seq (AC.reg [] [(I.mk (some 6) none false (X.v (A.mov (O.t 0)))), (I.mk (some 7) none false (X.call (O.k (V.fn 109 [] [])) [(O.t 6)])), (I.mk (some 2) none false (X.v (A.mov (O.t 7))))] []) AC.ret)
def A67_1 : AC := (AC.seq (AC.cond (O.k (V.bool false)) (AC.seq (AC.reg [] [(I.mk (some 3) none false (X.v (A.mov (O.t 0)))), (I.mk (some 4) none false (X.v (A.conv IntKind.u32 (O.t 3)))), (I.mk (some 5) none false (X.call (O.k (V.fn 108 [] [])) [(O.t 4)])), (I.mk (some 2) none false (X.v (A.mov (O.t 5))))] []) AC.ret) AC.skip) A67_2)
def A67 : AC := (AC.seq (AC.reg [] [(I.mk (some 2) none false (X.v (A.mov (O.k (V.int IntKind.i64 (Int.ofNat 0))))))] []) A67_1)
def an67 : List An := []
theorem c67 : cC Try.prog Try.f67.ntmps an67 (Try.f67.body.getD .skip) = some A67 := by kernel_rfl
structure H67 (D : Den) (σ : Sig) (F : Nat) : Prop where
  c109 : ∀ (x0 : (Kd .u64)) r, bits_OnesCount64 F x0 = some r → D 109 [Enc.enc x0] = some (Enc.enc (r : Int))
  g109 : σ 109 = some (0, false)
abbrev R67 (r : Int) : (Nat → V) → Prop := RR Try.prog [.tmp 2] 0 false (Enc.enc (r : Int))
section
variable {D : Den} {σ : Sig} {F : Nat} {r : Int}
def bits_OnesCount (F : Nat) (x_1 : (Kd .u64)) : Option Int :=
  (bits_OnesCount64 F (Kd.mk x_1.v : Kd .u64)).bind fun r_2 =>
  some r_2
theorem t67 (H : H67 D σ F) (x_1 : (Kd .u64)) (s : Nat → V) (hs : Facts [(0, (.int .u64 x_1.v))] s) (h : bits_OnesCount F x_1 = some r) : Run D σ (R67 r) (.run A67 []) s := by
  unfold bits_OnesCount at h
  have h0 := hs
  refine .seq ?_
  refine run_reg ?_
  refine e_end ?_
  refine g_v0 (.int .i64 0) rfl rfl ?_
  refine g_end ?_
  refine e_end ?_
  refine renew [(0, (.int .u64 x_1.v)), (2, (.int .i64 0))] ⟨h0, rfl⟩ ?_
  rintro s ⟨h0, h2⟩
  refine .nsq ?_
  refine .seq ?_
  refine run_condF rfl ?_
  refine .skip ?_
  refine .nsq ?_
  refine .seq ?_
  refine run_reg ?_
  refine e_end ?_
  refine g_v1 (t := 0) (u := (.int .u64 x_1.v)) (.int .u64 x_1.v) h0 rfl rfl ?_
  obtain ⟨r_2, E_r_2, h⟩ := bind_some h
  refine g_call (m := 0) (al := false) (r := (Enc.enc (r_2 : Int))) [Enc.enc ((Kd.mk x_1.v : Kd .u64) : (Kd .u64))] (ta_cons (v := (.int .u64 x_1.v)) rfl rfl rfl ta_nil) (H.c109 _ _ E_r_2) H.g109 rfl rfl rfl rfl ?_
  refine g_v1 (t := 7) (u := (.int .i64 r_2)) (.int .i64 r_2) rfl rfl rfl ?_
  refine g_end ?_
  refine e_end ?_
  refine renew [(2, (.int .i64 r_2))] rfl ?_
  rintro s h2
  refine .nsq ?_
  refine .ret ?_
  have hr := Option.some.inj h
  subst hr
  exact rrA (res_tmp h2) rfl
end
def e67 (F : Nat) : Ent := ⟨67, da (fun (x : ((Kd .u64) × Unit)) => bits_OnesCount F x.1) (fun (r : Int) => (Enc.enc (r : Int))), 0, false, selF []⟩
theorem p67 {F : Nat} {x0 : (Kd .u64)} {r : Int} (h : bits_OnesCount F x0 = some r) : (e67 F).den [Enc.enc x0] = some (Enc.enc (r : Int)) := da_put (f := fun (x : ((Kd .u64) × Unit)) => bits_OnesCount F x.1) (t := fun (r : Int) => (Enc.enc (r : Int))) (x0, ()) h
theorem o67 {D : Den} {σ : Sig} {F : Nat} (hF : Fits2 Try.prog D σ) (H : H67 D σ F) : (e67 F).Ok Try.prog := by
  refine ok_of (f := 67) (show unk 67 = 67 from rfl) (fun args r h => ?_) ⟨Try.f67, Try.func67, rfl, rfl⟩
  obtain ⟨⟨x0, _⟩, y, rfl, hy, rfl⟩ := da_open h
  exact contract_run hF (by kernel_rfl) Try.func67 rfl c67 (show 1 ≤ Try.f67.ntmps by decide) (t67 H x0 _ rfl hy)
/- (loop.example/g01109/impl.net).cut -/
def A88_4 : AC := (AC.reg [] [(I.mk (some 21) none false (X.v (A.mov (O.t 7)))), (I.mk (some 22) none false (X.v (A.fld (O.t 3) 0 0))), (I.mk (some 23) none false (X.v (A.load Sh.p (O.t 22)))), (I.mk (some 24) none false (X.v (A.mov (O.t 9)))), (I.mk (some 25) none false (X.v (A.idx (O.t 23) (O.t 24) 1))), (I.mk (some 26) none false (X.v (A.load Sh.s (O.t 25)))), (I.mk (some 27) none false (X.v (A.mov (O.t 1)))), (I.mk (some 28) none false (X.v (A.bin BinOp.andNot (O.t 26) (O.t 27)))), (I.mk (some 29) none false (X.v (A.conv IntKind.u64 (O.t 28)))), (I.mk (some 30) none false (X.call (O.k (V.fn 67 [] [])) [(O.t 29)])), (I.mk (some 31) none false (X.v (A.bin BinOp.add (O.t 21) (O.t 30)))), (I.mk (some 7) none false (X.v (A.mov (O.t 31))))] [])
def A88_5 : AC := (AC.reg [] [(I.mk (some 32) none false (X.v (A.bin BinOp.add (O.t 17) (O.k (V.int IntKind.i64 (Int.ofNat 1)))))), (I.mk (some 17) none false (X.v (A.mov (O.t 32))))] [])
def A88_3 : AC := (AC.seq (AC.block 1 (AC.seq (AC.reg [] [(I.mk (some 19) none false (X.v (A.idx (O.t 15) (O.t 17) 1))), (I.mk (some 20) none false (X.v (A.load Sh.s (O.t 19)))), (I.mk (some 9) none false (X.v (A.mov (O.t 20))))] []) A88_4)) A88_5)
def A88_2 : AC := (AC.seq (AC.cond (O.t 18) AC.skip (AC.exit 0)) A88_3)
def A88_1 : AC := (AC.seq (AC.reg [] [(I.mk (some 18) none false (X.v (A.bin BinOp.lss (O.t 17) (O.t 16))))] []) A88_2)
def A88_6 : AC := (AC.seq (AC.reg [] [(I.mk (some 33) none false (X.v (A.mov (O.t 7)))), (I.mk (some 6) none false (X.v (A.mov (O.t 33))))] []) AC.ret)
def A88_10 : AC := (AC.block 0 (AC.loop A88_1))
def A88_9 : AC := (AC.seq (AC.seq (AC.reg [] [(I.mk (some 14) none false (X.v (A.mov (O.t 1)))), (I.mk (some 15) none false (X.call (O.k (V.fn 60 [] [])) [(O.t 14)])), (I.mk (some 16) none false (X.v (A.len (O.t 15)))), (I.mk (some 17) none false (X.v (A.mov (O.k (V.int IntKind.i64 (Int.ofNat 0))))))] []) A88_10) A88_6)
def A88_8 : AC := (AC.seq (AC.reg [] [(I.mk (some 7) none false (X.v (A.mov (O.k (V.int IntKind.i64 (Int.ofNat 0))))))] []) A88_9)
def A88_7 : AC := (AC.seq (AC.reg [] [(I.mk (some 10) none false (X.v (A.mov (O.t 1)))), (I.mk (some 11) none false (X.v (A.mov (O.t 2)))), (I.mk (some 12) none false (X.v (A.bin BinOp.shl (O.k (V.int IntKind.i64 (Int.ofNat 1))) (O.t 11)))), (I.mk (some 13) none false (X.v (A.bin BinOp.or (O.t 10) (O.t 12)))), (I.mk (some 1) none false (X.v (A.mov (O.t 13))))] []) A88_8)
def A88 : AC := (AC.seq (AC.reg [.clr [3]] [(I.mk (some 3) none false (X.box (O.t 0))), (I.mk (some 6) none false (X.v (A.mov (O.k (V.int IntKind.i64 (Int.ofNat 0))))))] []) A88_7)
def an88 : List An := [{ id := 0, pre := [.clr [3]], ep := [], lin := [], sp := [] }]
theorem c88 : cC Try.prog Try.f88.ntmps an88 (Try.f88.body.getD .skip) = some A88 := by kernel_rfl
structure H88 (D : Den) (σ : Sig) (F : Nat) : Prop where
  c60 : ∀ (x0 : Int) r, i_setOf F x0 = some r → D 60 [Enc.enc x0] = some (Enc.enc (r : (List Int)))
  g60 : σ 60 = some (0, false)
  c67 : ∀ (x0 : (Kd .u64)) r, bits_OnesCount F x0 = some r → D 67 [Enc.enc x0] = some (Enc.enc (r : Int))
  g67 : σ 67 = some (0, false)
abbrev R88 (r : Int) : (Nat → V) → Prop := RR Try.prog [.tmp 6] 0 false (Enc.enc (r : Int))
section
variable {D : Den} {σ : Sig} {F : Nat} {r : Int}
def i_net_cut_l1 (F : Nat) (set_2 : Int) (q_4 : Int) (w_1 : (S1 (List Int))) (r_5 : (List Int))  : Nat → Int → Int → Option Int
  | 0, _, _ => none
  | k + 1, cut_9, t17_10 =>
    bif decide (t17_10 < (r_5.length : Int)) then
      (idx r_5 t17_10).bind fun e_14 =>
      (idx w_1.a e_14).bind fun e_15 =>
      (bits_OnesCount F (Kd.mk (IntKind.u64.wrap (iandNot .i64 e_15 (ior .i64 set_2 q_4))) : Kd .u64)).bind fun r_16 =>
      (i_net_cut_l1 F set_2 q_4 w_1 r_5 k) (w64 (cut_9 + r_16)) (w64 (t17_10 + 1))
    else
      some cut_9
theorem t_f88_l1 (H : H88 D σ F) (set_2 : Int) (q_4 : Int) (w_1 : (S1 (List Int))) (r_5 : (List Int))  : ∀ (k : Nat) (cut_9 : Int) (t17_10 : Int) (s : Nat → V), Facts [(1, (.int .i64 (ior .i64 set_2 q_4))), (3, (.ref (.bx 3) 0 [] (.agg [(Enc.enc (w_1.a : List Int))]))), (6, (.int .i64 0)), (7, (.int .i64 cut_9)), (15, (Enc.enc (r_5 : List Int))), (16, (.int .i64 (r_5.length : Int))), (17, (.int .i64 t17_10))] s → i_net_cut_l1 F set_2 q_4 w_1 r_5 k cut_9 t17_10 = some r → Run D σ (R88 r) (.run A88_1 [.lp A88_1, .bk 0, .sq A88_6]) s := by
  intro k
  induction k with
  | zero => intro cut_9 t17_10 s _ h; exact nomatch (h : (none : Option _) = some r)
  | succ k ih =>
    intro cut_9 t17_10 s hs h
    rw [i_net_cut_l1] at h
    obtain ⟨h1, h3, h6, h7, h15, h16, h17⟩ := hs
    refine .seq ?_
    refine run_reg ?_
    refine e_end ?_
    refine g_v2 (t1 := 17) (t2 := 16) (u1 := (.int .i64 t17_10)) (u2 := (.int .i64 (r_5.length : Int))) (.bool (decide (t17_10 < (r_5.length : Int)))) h17 h16 rfl rfl ?_
    refine g_end ?_
    refine e_end ?_
    refine renew [(1, (.int .i64 (ior .i64 set_2 q_4))), (3, (.ref (.bx 3) 0 [] (.agg [(Enc.enc (w_1.a : List Int))]))), (6, (.int .i64 0)), (7, (.int .i64 cut_9)), (15, (Enc.enc (r_5 : List Int))), (16, (.int .i64 (r_5.length : Int))), (17, (.int .i64 t17_10)), (18, (.bool (decide (t17_10 < (r_5.length : Int)))))] ⟨h1, h3, h6, h7, h15, h16, h17, rfl⟩ ?_
    rintro s ⟨h1, h3, h6, h7, h15, h16, h17, h18⟩
    refine .nsq ?_
    refine .seq ?_
    refine run_cond (t := decide (t17_10 < (r_5.length : Int))) h18 h (fun h => ?_) (fun h => ?_)
    · refine .skip ?_
      refine .nsq ?_
      refine .seq ?_
      refine .block ?_
      refine .seq ?_
      refine run_reg ?_
      refine e_end ?_
      obtain ⟨e_14, E_e_14, h⟩ := bind_some h
      refine g_v (.ref .sh 0 [] (.int .i64 e_14)) (ev_idx (t := .sh) (lo := 0) (xs := r_5) h15 h17 E_e_14 rfl rfl) ?_
      refine g_v1 (t := 19) (u := (.ref .sh 0 [] (.int .i64 e_14))) (.int .i64 e_14) rfl rfl rfl ?_
      refine g_v1 (t := 20) (u := (.int .i64 e_14)) (.int .i64 e_14) rfl rfl rfl ?_
      refine g_end ?_
      refine e_end ?_
      refine renew [(1, (.int .i64 (ior .i64 set_2 q_4))), (3, (.ref (.bx 3) 0 [] (.agg [(Enc.enc (w_1.a : List Int))]))), (6, (.int .i64 0)), (7, (.int .i64 cut_9)), (9, (.int .i64 e_14)), (15, (Enc.enc (r_5 : List Int))), (16, (.int .i64 (r_5.length : Int))), (17, (.int .i64 t17_10))] ⟨h1, h3, h6, h7, rfl, h15, h16, h17⟩ ?_
      rintro s ⟨h1, h3, h6, h7, h9, h15, h16, h17⟩
      refine .nsq ?_
      refine run_reg ?_
      refine e_end ?_
      refine g_v1 (t := 7) (u := (.int .i64 cut_9)) (.int .i64 cut_9) h7 rfl rfl ?_
      refine g_v1 (t := 3) (u := (.ref (.bx 3) 0 [] (.agg [(Enc.enc (w_1.a : List Int))]))) (.ref (.bx 3) 0 [0] (Enc.enc (w_1.a : List Int))) h3 rfl rfl ?_
      refine g_v1 (t := 22) (u := (.ref (.bx 3) 0 [0] (Enc.enc (w_1.a : List Int)))) (Enc.enc (w_1.a : List Int)) rfl rfl rfl ?_
      refine g_v1 (t := 9) (u := (.int .i64 e_14)) (.int .i64 e_14) h9 rfl rfl ?_
      obtain ⟨e_15, E_e_15, h⟩ := bind_some h
      refine g_v (.ref .sh 0 [] (.int .i64 e_15)) (ev_idx (t := .sh) (lo := 0) (xs := w_1.a) rfl rfl E_e_15 rfl rfl) ?_
      refine g_v1 (t := 25) (u := (.ref .sh 0 [] (.int .i64 e_15))) (.int .i64 e_15) rfl rfl rfl ?_
      refine g_v1 (t := 1) (u := (.int .i64 (ior .i64 set_2 q_4))) (.int .i64 (ior .i64 set_2 q_4)) h1 rfl rfl ?_
      refine g_v2 (t1 := 26) (t2 := 27) (u1 := (.int .i64 e_15)) (u2 := (.int .i64 (ior .i64 set_2 q_4))) (.int .i64 (iandNot .i64 e_15 (ior .i64 set_2 q_4))) rfl rfl rfl rfl ?_
      refine g_v1 (t := 28) (u := (.int .i64 (iandNot .i64 e_15 (ior .i64 set_2 q_4)))) (.int .u64 (IntKind.u64.wrap (iandNot .i64 e_15 (ior .i64 set_2 q_4)))) rfl rfl rfl ?_
      obtain ⟨r_16, E_r_16, h⟩ := bind_some h
      refine g_call (m := 0) (al := false) (r := (Enc.enc (r_16 : Int))) [Enc.enc ((Kd.mk (IntKind.u64.wrap (iandNot .i64 e_15 (ior .i64 set_2 q_4))) : Kd .u64) : (Kd .u64))] (ta_cons (v := (.int .u64 (IntKind.u64.wrap (iandNot .i64 e_15 (ior .i64 set_2 q_4))))) rfl rfl rfl ta_nil) (H.c67 _ _ E_r_16) H.g67 rfl rfl rfl rfl ?_
      refine g_v2 (t1 := 21) (t2 := 30) (u1 := (.int .i64 cut_9)) (u2 := (.int .i64 r_16)) (.int .i64 (w64 (cut_9 + r_16))) rfl rfl rfl rfl ?_
      refine g_v1 (t := 31) (u := (.int .i64 (w64 (cut_9 + r_16)))) (.int .i64 (w64 (cut_9 + r_16))) rfl rfl rfl ?_
      refine g_end ?_
      refine e_end ?_
      refine renew [(1, (.int .i64 (ior .i64 set_2 q_4))), (3, (.ref (.bx 3) 0 [] (.agg [(Enc.enc (w_1.a : List Int))]))), (6, (.int .i64 0)), (7, (.int .i64 (w64 (cut_9 + r_16)))), (15, (Enc.enc (r_5 : List Int))), (16, (.int .i64 (r_5.length : Int))), (17, (.int .i64 t17_10))] ⟨h1, h3, h6, rfl, h15, h16, h17⟩ ?_
      rintro s ⟨h1, h3, h6, h7, h15, h16, h17⟩
      refine .nbk ?_
      refine .nsq ?_
      refine run_reg ?_
      refine e_end ?_
      refine g_v1 (t := 17) (u := (.int .i64 t17_10)) (.int .i64 (w64 (t17_10 + 1))) h17 rfl rfl ?_
      refine g_v1 (t := 32) (u := (.int .i64 (w64 (t17_10 + 1)))) (.int .i64 (w64 (t17_10 + 1))) rfl rfl rfl ?_
      refine g_end ?_
      refine e_end ?_
      refine renew [(1, (.int .i64 (ior .i64 set_2 q_4))), (3, (.ref (.bx 3) 0 [] (.agg [(Enc.enc (w_1.a : List Int))]))), (6, (.int .i64 0)), (7, (.int .i64 (w64 (cut_9 + r_16)))), (15, (Enc.enc (r_5 : List Int))), (16, (.int .i64 (r_5.length : Int))), (17, (.int .i64 (w64 (t17_10 + 1))))] ⟨h1, h3, h6, h7, h15, h16, rfl⟩ ?_
      rintro s ⟨h1, h3, h6, h7, h15, h16, h17⟩
      refine .nlp ?_
      exact ih (w64 (cut_9 + r_16)) (w64 (t17_10 + 1)) _ ⟨h1, h3, h6, h7, h15, h16, h17⟩ h
    · refine .exit ?_
      refine .esq ?_
      refine .elp ?_
      refine .ebk ?_
      refine .nsq ?_
      refine .seq ?_
      refine run_reg ?_
      refine e_end ?_
      refine g_v1 (t := 7) (u := (.int .i64 cut_9)) (.int .i64 cut_9) h7 rfl rfl ?_
      refine g_v1 (t := 33) (u := (.int .i64 cut_9)) (.int .i64 cut_9) rfl rfl rfl ?_
      refine g_end ?_
      refine e_end ?_
      refine renew [(6, (.int .i64 cut_9))] rfl ?_
      rintro s h6
      refine .nsq ?_
      refine .ret ?_
      have hr := Option.some.inj h
      subst hr
      exact rrA (res_tmp h6) rfl
def i_net_cut (F : Nat) (w_1 : (S1 (List Int))) (set_2 : Int) (x_3 : Int) : Option Int :=
  (shlI .i64 1 x_3).bind fun q_4 =>
  (i_setOf F (ior .i64 set_2 q_4)).bind fun r_5 =>
  i_net_cut_l1 F set_2 q_4 w_1 r_5 F 0 0
theorem t88 (H : H88 D σ F) (w_1 : (S1 (List Int))) (set_2 : Int) (x_3 : Int) (s : Nat → V) (hs : Facts [(0, (.agg [(Enc.enc (w_1.a : List Int))])), (1, (.int .i64 set_2)), (2, (.int .i64 x_3))] s) (h : i_net_cut F w_1 set_2 x_3 = some r) : Run D σ (R88 r) (.run A88 []) s := by
  unfold i_net_cut at h
  obtain ⟨h0, h1, h2⟩ := hs
  refine .seq ?_
  refine run_reg ?_
  refine e_clr ?_
  refine e_end ?_
  refine g_box (.agg [(Enc.enc (w_1.a : List Int))]) (rd_of (keep_clear (s := s) (pk := [3]) h0 rfl (map_agg (maps_cons (Enc.map_enc _ (w_1.a : List Int)) maps_nil))) rfl) (gone_clear (s := s) (pk := [3]) (t := 3) rfl) rfl ?_
  refine g_v0 (.int .i64 0) rfl rfl ?_
  refine g_end ?_
  refine e_end ?_
  refine renew [(1, (.int .i64 set_2)), (2, (.int .i64 x_3)), (3, (.ref (.bx 3) 0 [] (.agg [(Enc.enc (w_1.a : List Int))]))), (6, (.int .i64 0))] ⟨(keep_clear (s := s) (pk := [3]) h1 rfl rfl), (keep_clear (s := s) (pk := [3]) h2 rfl rfl), rfl, rfl⟩ ?_
  rintro s ⟨h1, h2, h3, h6⟩
  refine .nsq ?_
  refine .seq ?_
  refine run_reg ?_
  refine e_end ?_
  refine g_v1 (t := 1) (u := (.int .i64 set_2)) (.int .i64 set_2) h1 rfl rfl ?_
  refine g_v1 (t := 2) (u := (.int .i64 x_3)) (.int .i64 x_3) h2 rfl rfl ?_
  obtain ⟨q_4, E_q_4, h⟩ := bind_some h
  refine g_v (.int .i64 q_4) (ev_shl rfl rfl E_q_4) ?_
  refine g_v2 (t1 := 10) (t2 := 12) (u1 := (.int .i64 set_2)) (u2 := (.int .i64 q_4)) (.int .i64 (ior .i64 set_2 q_4)) rfl rfl rfl rfl ?_
  refine g_v1 (t := 13) (u := (.int .i64 (ior .i64 set_2 q_4))) (.int .i64 (ior .i64 set_2 q_4)) rfl rfl rfl ?_
  refine g_end ?_
  refine e_end ?_
  refine renew [(1, (.int .i64 (ior .i64 set_2 q_4))), (3, (.ref (.bx 3) 0 [] (.agg [(Enc.enc (w_1.a : List Int))]))), (6, (.int .i64 0))] ⟨rfl, h3, h6⟩ ?_
  rintro s ⟨h1, h3, h6⟩
  refine .nsq ?_
  refine .seq ?_
  refine run_reg ?_
  refine e_end ?_
  refine g_v0 (.int .i64 0) rfl rfl ?_
  refine g_end ?_
  refine e_end ?_
  refine renew [(1, (.int .i64 (ior .i64 set_2 q_4))), (3, (.ref (.bx 3) 0 [] (.agg [(Enc.enc (w_1.a : List Int))]))), (6, (.int .i64 0)), (7, (.int .i64 0))] ⟨h1, h3, h6, rfl⟩ ?_
  rintro s ⟨h1, h3, h6, h7⟩
  refine .nsq ?_
  refine .seq ?_
  refine .seq ?_
  refine run_reg ?_
  refine e_end ?_
  refine g_v1 (t := 1) (u := (.int .i64 (ior .i64 set_2 q_4))) (.int .i64 (ior .i64 set_2 q_4)) h1 rfl rfl ?_
  obtain ⟨r_5, E_r_5, h⟩ := bind_some h
  refine g_call (m := 0) (al := false) (r := (Enc.enc (r_5 : (List Int)))) [Enc.enc (ior .i64 set_2 q_4 : Int)] (ta_cons (v := (.int .i64 (ior .i64 set_2 q_4))) rfl rfl rfl ta_nil) (H.c60 _ _ E_r_5) H.g60 rfl rfl rfl rfl ?_
  refine g_v (.int .i64 (r_5.length : Int)) (ev_len (xs := r_5) rfl) ?_
  refine g_v0 (.int .i64 0) rfl rfl ?_
  refine g_end ?_
  refine e_end ?_
  refine renew [(1, (.int .i64 (ior .i64 set_2 q_4))), (3, (.ref (.bx 3) 0 [] (.agg [(Enc.enc (w_1.a : List Int))]))), (6, (.int .i64 0)), (7, (.int .i64 0)), (15, (Enc.enc (r_5 : List Int))), (16, (.int .i64 (r_5.length : Int))), (17, (.int .i64 0))] ⟨h1, h3, h6, h7, rfl, rfl, rfl⟩ ?_
  rintro s ⟨h1, h3, h6, h7, h15, h16, h17⟩
  refine .nsq ?_
  refine .block ?_
  refine .loop ?_
  exact t_f88_l1 H set_2 q_4 w_1 r_5 F 0 0 _ ⟨h1, h3, h6, h7, h15, h16, h17⟩ h
end
def e88 (F : Nat) : Ent := ⟨88, da (fun (x : ((S1 (List Int)) × Int × Int × Unit)) => i_net_cut F x.1 x.2.1 x.2.2.1) (fun (r : Int) => (Enc.enc (r : Int))), 0, false, selF []⟩
theorem p88 {F : Nat} {x0 : (S1 (List Int))} {x1 : Int} {x2 : Int} {r : Int} (h : i_net_cut F x0 x1 x2 = some r) : (e88 F).den [Enc.enc x0, Enc.enc x1, Enc.enc x2] = some (Enc.enc (r : Int)) := da_put (f := fun (x : ((S1 (List Int)) × Int × Int × Unit)) => i_net_cut F x.1 x.2.1 x.2.2.1) (t := fun (r : Int) => (Enc.enc (r : Int))) (x0, x1, x2, ()) h
theorem o88 {D : Den} {σ : Sig} {F : Nat} (hF : Fits2 Try.prog D σ) (H : H88 D σ F) : (e88 F).Ok Try.prog := by
  refine ok_of (f := 88) (show unk 88 = 88 from rfl) (fun args r h => ?_) ⟨Try.f88, Try.func88, rfl, rfl⟩
  obtain ⟨⟨x0, x1, x2, _⟩, y, rfl, hy, rfl⟩ := da_open h
  exact contract_run hF (by kernel_rfl) Try.func88 rfl c88 (show 3 ≤ Try.f88.ntmps by decide) (t88 H x0 x1 x2 _ ⟨rfl, rfl, rfl⟩ hy)
/- (loop.example/g01109/impl.net).bestOrders -/
def A87s1_2 : AC := (AC.cond (O.t 19) AC.skip (AC.exit 0))
def A87s1_11 : AC := (AC.cond (O.t 58) (AC.reg [] [(I.mk (some 59) none false (X.v (A.mov (O.t 7)))), (I.mk (some 60) none false (X.v (A.mov (O.t 8)))), (I.mk (some 61) none false (X.v (A.mov (O.t 11)))), (I.mk (some 62) none false (X.v (A.idx (O.t 59) (O.t 60) 1))), (I.mk none none false (X.store Sh.s (O.t 62) (O.t 61)))] []) AC.skip)
def A87s1_10 : AC := (AC.seq (AC.reg [] [(I.mk (some 49) none false (X.v (A.mov (O.t 9)))), (I.mk (some 50) none false (X.v (A.bin BinOp.eql (O.t 49) (O.k (V.int IntKind.i64 (Int.ofNat 0)))))), (I.mk (some 51) none false (X.v (A.mov (O.t 50)))), (I.mk (some 52) (some (51, false)) false (X.v (A.mov (O.t 11)))), (I.mk (some 53) (some (51, false)) false (X.v (A.mov (O.t 7)))), (I.mk (some 54) (some (51, false)) false (X.v (A.mov (O.t 8)))), (I.mk (some 55) (some (51, false)) false (X.v (A.idx (O.t 53) (O.t 54) 1))), (I.mk (some 56) (some (51, false)) false (X.v (A.load Sh.s (O.t 55)))), (I.mk (some 57) (some (51, false)) false (X.v (A.bin BinOp.lss (O.t 52) (O.t 56)))), (I.mk (some 58) none false (X.v (A.pick (O.t 51) (O.k (V.bool true)) (O.t 57))))] []) A87s1_11)
def A87s1_9 : AC := (AC.seq (AC.reg [] [(I.mk (some 37) none false (X.v (A.mov (O.t 2)))), (I.mk (some 38) none false (X.v (A.mov (O.t 8)))), (I.mk (some 39) none false (X.v (A.mov (O.t 10)))), (I.mk (some 40) none false (X.call (O.t 37) [(O.t 38), (O.t 39)])), (I.mk (some 41) none false (X.v (A.mov (O.t 7)))), (I.mk (some 42) none false (X.v (A.mov (O.t 8)))), (I.mk (some 43) none false (X.v (A.mov (O.t 10)))), (I.mk (some 44) none false (X.v (A.bin BinOp.shl (O.k (V.int IntKind.i64 (Int.ofNat 1))) (O.t 43)))), (I.mk (some 45) none false (X.v (A.bin BinOp.or (O.t 42) (O.t 44)))), (I.mk (some 46) none false (X.v (A.idx (O.t 41) (O.t 45) 1))), (I.mk (some 47) none false (X.v (A.load Sh.s (O.t 46)))), (I.mk (some 48) none false (X.v (A.mx [(O.t 40), (O.t 47)]))), (I.mk (some 11) none false (X.v (A.mov (O.t 48))))] []) A87s1_10)
def A87s1_12 : AC := (AC.reg [] [(I.mk (some 63) none false (X.v (A.bin BinOp.add (O.t 32) (O.k (V.int IntKind.i64 (Int.ofNat 1)))))), (I.mk (some 32) none false (X.v (A.mov (O.t 63))))] [])
def A87s1_8 : AC := (AC.seq (AC.block 3 (AC.seq (AC.reg [] [(I.mk (some 34) none false (X.v (A.mov (O.t 32)))), (I.mk (some 35) none false (X.v (A.idx (O.t 30) (O.t 32) 1))), (I.mk (some 36) none false (X.v (A.load Sh.s (O.t 35)))), (I.mk (some 9) none false (X.v (A.mov (O.t 34)))), (I.mk (some 10) none false (X.v (A.mov (O.t 36))))] []) A87s1_9)) A87s1_12)
def A87s1_7 : AC := (AC.seq (AC.cond (O.t 33) AC.skip (AC.exit 2)) A87s1_8)
def A87s1_6 : AC := (AC.seq (AC.reg [] [(I.mk (some 33) none false (X.v (A.bin BinOp.lss (O.t 32) (O.t 31))))] []) A87s1_7)
def A87s1_5 : AC := (AC.block 2 (AC.loop A87s1_6))
def A87s1_4 : AC := (AC.seq (AC.reg [] [(I.mk (some 26) none false (X.v (A.load (Sh.ag [Sh.p]) (O.t 3)))), (I.mk (some 27) none false (X.call (O.k (V.fn 59 [] [])) [(O.t 26)])), (I.mk (some 28) none false (X.v (A.mov (O.t 8)))), (I.mk (some 29) none false (X.v (A.bin BinOp.andNot (O.t 27) (O.t 28)))), (I.mk (some 30) none false (X.call (O.k (V.fn 60 [] [])) [(O.t 29)])), (I.mk (some 31) none false (X.v (A.len (O.t 30)))), (I.mk (some 32) none false (X.v (A.mov (O.k (V.int IntKind.i64 (Int.ofNat 0))))))] []) A87s1_5)
def A87s1_13 : AC := (AC.reg [] [(I.mk (some 20) none false (X.v (A.mov (O.t 8)))), (I.mk (some 21) none false (X.v (A.bin BinOp.sub (O.t 20) (O.k (V.int IntKind.i64 (Int.ofNat 1)))))), (I.mk (some 8) none false (X.v (A.mov (O.t 21))))] [])
def A87s1_3 : AC := (AC.seq (AC.block 1 (AC.seq (AC.reg [] [(I.mk (some 22) none false (X.v (A.mov (O.t 7)))), (I.mk (some 23) none false (X.v (A.mov (O.t 8)))), (I.mk (some 24) none false (X.v (A.mov (O.t 1)))), (I.mk (some 25) none false (X.v (A.idx (O.t 22) (O.t 23) 1))), (I.mk none none false (X.store Sh.s (O.t 25) (O.t 24)))] []) A87s1_4)) A87s1_13)
def A87s1_1 : AC := (AC.seq (AC.seq (AC.reg [] [(I.mk (some 18) none false (X.v (A.mov (O.t 8)))), (I.mk (some 19) none false (X.v (A.bin BinOp.geq (O.t 18) (O.k (V.int IntKind.i64 (Int.ofNat 0))))))] []) A87s1_2) A87s1_3)
def A87s1_14 : AC := (AC.seq (AC.reg [] [(I.mk (some 64) none false (X.v (A.mov (O.t 7)))), (I.mk (some 6) none false (X.v (A.mov (O.t 64))))] [.home 7 6]) AC.ret)
def A87s1_17 : AC := (AC.block 0 (AC.loop A87s1_1))
def A87s1_16 : AC := (AC.seq (AC.seq (AC.reg [] [(I.mk (some 16) none false (X.v (A.load (Sh.ag [Sh.p]) (O.t 3)))), (I.mk (some 17) none false (X.call (O.k (V.fn 59 [] [])) [(O.t 16)])), (I.mk (some 8) none false (X.v (A.mov (O.t 17))))] []) A87s1_17) A87s1_14)
def A87s1_15 : AC := (AC.seq (AC.reg [.clr [15]] [(I.mk (some 12) none false (X.v (A.load (Sh.ag [Sh.p]) (O.t 3)))), (I.mk (some 13) none false (X.call (O.k (V.fn 59 [] [])) [(O.t 12)])), (I.mk (some 14) none false (X.v (A.bin BinOp.add (O.t 13) (O.k (V.int IntKind.i64 (Int.ofNat 1)))))), (I.mk (some 15) none false (X.mk (O.t 14) (V.int IntKind.i64 (Int.ofNat 0)))), (I.mk (some 7) none false (X.v (A.mov (O.t 15))))] [.home 15 7]) A87s1_16)
def A87s1 : AC := (AC.seq (AC.reg [.clr [3]] [(I.mk (some 3) none false (X.box (O.t 0))), (I.mk (some 6) none false (X.v (A.mov (O.k (V.sl Tok.nl Sh.s 0 [])))))] []) A87s1_15)
def an87s1 : List An := [{ id := 0, pre := [.clr [3]], ep := [], lin := [], sp := [] }, { id := 1, pre := [.clr [15]], ep := [.home 15 7], lin := [], sp := [] }, { id := 13, pre := [], ep := [.home 7 6], lin := [], sp := [] }]
theorem c87s1 : cC Try.prog Try.f87.ntmps an87s1 (Try.f87.body.getD .skip) = some A87s1 := by kernel_rfl
structure H87s1 (D : Den) (σ : Sig) (F : Nat) : Prop where
  c59 : ∀ (x0 : (S1 (List Int))) r, i_net_all F x0 = some r → D 59 [Enc.enc x0] = some (Enc.enc (r : Int))
  g59 : σ 59 = some (0, false)
  c60 : ∀ (x0 : Int) r, i_setOf F x0 = some r → D 60 [Enc.enc x0] = some (Enc.enc (r : (List Int)))
  g60 : σ 60 = some (0, false)
  c88 : ∀ (x0 : (S1 (List Int))) (x1 : Int) (x2 : Int) r, i_net_cut F x0 x1 x2 = some r → D 88 [Enc.enc x0, Enc.enc x1, Enc.enc x2] = some (Enc.enc (r : Int))
  g88 : σ 88 = some (0, false)
abbrev R87s1 (r : (List Int)) : (Nat → V) → Prop := RR Try.prog [.tmp 6] 0 false (Enc.enc (r : (List Int)))
section
variable {D : Den} {σ : Sig} {F : Nat} {r : (List Int)}
def i_net_bestOrders_of_i_net_cut_j1 (F : Nat) (none_2 : Int) (cost_3 : (Cl 88 ((S1 (List Int)) × Unit) Unit)) (w_1 : (S1 (List Int))) (set_43 : Int) (r_81 : (List Int)) (t32_93 : Int) (c1 : (List Int) → Int → Option (List Int)) (c4 : (List Int) → Int → Option (List Int)) (best_111 : (List Int)) : Option (List Int) :=
  c4 best_111 (w64 (t32_93 + 1))
theorem t_f87s1_j1 (H : H87s1 D σ F) (none_2 : Int) (cost_3 : (Cl 88 ((S1 (List Int)) × Unit) Unit)) (w_1 : (S1 (List Int))) (set_43 : Int) (r_81 : (List Int)) (t32_93 : Int) (c1 : (List Int) → Int → Option (List Int)) (Hc1 : ∀ (best_42 : (List Int)) (set_43 : Int) (s : Nat → V), Facts [(1, (.int .i64 none_2)), (2, (.fn 88 [(.agg [(Enc.enc (cost_3.fs.1.a : List Int))])] [])), (3, (.ref (.bx 3) 0 [] (.agg [(Enc.enc (w_1.a : List Int))]))), (6, (.sl .nl (Enc.shp Int) 0 [])), (7, (encO (.at 7 []) (.of (best_42 : List Int)))), (8, (.int .i64 set_43))] s → c1 best_42 set_43 = some r → Run D σ (R87s1 r) (.run A87s1_1 [.lp A87s1_1, .bk 0, .sq A87s1_14]) s) (c4 : (List Int) → Int → Option (List Int)) (Hc4 : ∀ (best_92 : (List Int)) (t32_93 : Int) (s : Nat → V), Facts [(1, (.int .i64 none_2)), (2, (.fn 88 [(.agg [(Enc.enc (cost_3.fs.1.a : List Int))])] [])), (3, (.ref (.bx 3) 0 [] (.agg [(Enc.enc (w_1.a : List Int))]))), (6, (.sl .nl (Enc.shp Int) 0 [])), (7, (encO (.at 7 []) (.of (best_92 : List Int)))), (8, (.int .i64 set_43)), (30, (Enc.enc (r_81 : List Int))), (31, (.int .i64 (r_81.length : Int))), (32, (.int .i64 t32_93))] s → c4 best_92 t32_93 = some r → Run D σ (R87s1 r) (.run A87s1_6 [.lp A87s1_6, .bk 2, .bk 1, .sq A87s1_13, .lp A87s1_1, .bk 0, .sq A87s1_14]) s) (best_111 : (List Int)) (s : Nat → V) (hs : Facts [(1, (.int .i64 none_2)), (2, (.fn 88 [(.agg [(Enc.enc (cost_3.fs.1.a : List Int))])] [])), (3, (.ref (.bx 3) 0 [] (.agg [(Enc.enc (w_1.a : List Int))]))), (6, (.sl .nl (Enc.shp Int) 0 [])), (7, (encO (.at 7 []) (.of (best_111 : List Int)))), (8, (.int .i64 set_43)), (30, (Enc.enc (r_81 : List Int))), (31, (.int .i64 (r_81.length : Int))), (32, (.int .i64 t32_93))] s) (h : i_net_bestOrders_of_i_net_cut_j1 F none_2 cost_3 w_1 set_43 r_81 t32_93 c1 c4 best_111 = some r) : Run D σ (R87s1 r) (.nrm [.bk 3, .sq A87s1_12, .lp A87s1_6, .bk 2, .bk 1, .sq A87s1_13, .lp A87s1_1, .bk 0, .sq A87s1_14]) s := by
  unfold i_net_bestOrders_of_i_net_cut_j1 at h
  obtain ⟨h1, h2, h3, h6, h7, h8, h30, h31, h32⟩ := hs
  refine .nbk ?_
  refine .nsq ?_
  refine run_reg ?_
  refine e_end ?_
  refine g_v1 (t := 32) (u := (.int .i64 t32_93)) (.int .i64 (w64 (t32_93 + 1))) h32 rfl rfl ?_
  refine g_v1 (t := 63) (u := (.int .i64 (w64 (t32_93 + 1)))) (.int .i64 (w64 (t32_93 + 1))) rfl rfl rfl ?_
  refine g_end ?_
  refine e_end ?_
  refine renew [(1, (.int .i64 none_2)), (2, (.fn 88 [(.agg [(Enc.enc (cost_3.fs.1.a : List Int))])] [])), (3, (.ref (.bx 3) 0 [] (.agg [(Enc.enc (w_1.a : List Int))]))), (6, (.sl .nl (Enc.shp Int) 0 [])), (7, (encO (.at 7 []) (.of (best_111 : List Int)))), (8, (.int .i64 set_43)), (30, (Enc.enc (r_81 : List Int))), (31, (.int .i64 (r_81.length : Int))), (32, (.int .i64 (w64 (t32_93 + 1))))] ⟨h1, h2, h3, h6, h7, h8, h30, h31, rfl⟩ ?_
  rintro s ⟨h1, h2, h3, h6, h7, h8, h30, h31, h32⟩
  refine .nlp ?_
  exact Hc4 best_111 (w64 (t32_93 + 1)) _ ⟨h1, h2, h3, h6, h7, h8, h30, h31, h32⟩ h
def i_net_bestOrders_of_i_net_cut_j2 (F : Nat) (none_2 : Int) (cost_3 : (Cl 88 ((S1 (List Int)) × Unit) Unit)) (w_1 : (S1 (List Int))) (best_92 : (List Int)) (set_43 : Int) (e_107 : Int) (r_105 : Int) (r_81 : (List Int)) (t32_93 : Int) (c1 : (List Int) → Int → Option (List Int)) (c4 : (List Int) → Int → Option (List Int)) (t58_109 : Bool) : Option (List Int) :=
  bif t58_109 then
    (idx best_92 set_43).bind fun e_112 =>
    i_net_bestOrders_of_i_net_cut_j1 F none_2 cost_3 w_1 set_43 r_81 t32_93 c1 c4 (best_92.set set_43.toNat (if e_107 > r_105 then e_107 else r_105))
  else
    i_net_bestOrders_of_i_net_cut_j1 F none_2 cost_3 w_1 set_43 r_81 t32_93 c1 c4 best_92
theorem t_f87s1_j2 (H : H87s1 D σ F) (none_2 : Int) (cost_3 : (Cl 88 ((S1 (List Int)) × Unit) Unit)) (w_1 : (S1 (List Int))) (best_92 : (List Int)) (set_43 : Int) (e_107 : Int) (r_105 : Int) (r_81 : (List Int)) (t32_93 : Int) (c1 : (List Int) → Int → Option (List Int)) (Hc1 : ∀ (best_42 : (List Int)) (set_43 : Int) (s : Nat → V), Facts [(1, (.int .i64 none_2)), (2, (.fn 88 [(.agg [(Enc.enc (cost_3.fs.1.a : List Int))])] [])), (3, (.ref (.bx 3) 0 [] (.agg [(Enc.enc (w_1.a : List Int))]))), (6, (.sl .nl (Enc.shp Int) 0 [])), (7, (encO (.at 7 []) (.of (best_42 : List Int)))), (8, (.int .i64 set_43))] s → c1 best_42 set_43 = some r → Run D σ (R87s1 r) (.run A87s1_1 [.lp A87s1_1, .bk 0, .sq A87s1_14]) s) (c4 : (List Int) → Int → Option (List Int)) (Hc4 : ∀ (best_92 : (List Int)) (t32_93 : Int) (s : Nat → V), Facts [(1, (.int .i64 none_2)), (2, (.fn 88 [(.agg [(Enc.enc (cost_3.fs.1.a : List Int))])] [])), (3, (.ref (.bx 3) 0 [] (.agg [(Enc.enc (w_1.a : List Int))]))), (6, (.sl .nl (Enc.shp Int) 0 [])), (7, (encO (.at 7 []) (.of (best_92 : List Int)))), (8, (.int .i64 set_43)), (30, (Enc.enc (r_81 : List Int))), (31, (.int .i64 (r_81.length : Int))), (32, (.int .i64 t32_93))] s → c4 best_92 t32_93 = some r → Run D σ (R87s1 r) (.run A87s1_6 [.lp A87s1_6, .bk 2, .bk 1, .sq A87s1_13, .lp A87s1_1, .bk 0, .sq A87s1_14]) s) (t58_109 : Bool) (s : Nat → V) (hs : Facts [(1, (.int .i64 none_2)), (2, (.fn 88 [(.agg [(Enc.enc (cost_3.fs.1.a : List Int))])] [])), (3, (.ref (.bx 3) 0 [] (.agg [(Enc.enc (w_1.a : List Int))]))), (6, (.sl .nl (Enc.shp Int) 0 [])), (7, (encO (.at 7 []) (.of (best_92 : List Int)))), (8, (.int .i64 set_43)), (11, (.int .i64 (if e_107 > r_105 then e_107 else r_105))), (30, (Enc.enc (r_81 : List Int))), (31, (.int .i64 (r_81.length : Int))), (32, (.int .i64 t32_93)), (58, (.bool t58_109))] s) (h : i_net_bestOrders_of_i_net_cut_j2 F none_2 cost_3 w_1 best_92 set_43 e_107 r_105 r_81 t32_93 c1 c4 t58_109 = some r) : Run D σ (R87s1 r) (.nrm [.sq A87s1_11, .bk 3, .sq A87s1_12, .lp A87s1_6, .bk 2, .bk 1, .sq A87s1_13, .lp A87s1_1, .bk 0, .sq A87s1_14]) s := by
  unfold i_net_bestOrders_of_i_net_cut_j2 at h
  obtain ⟨h1, h2, h3, h6, h7, h8, h11, h30, h31, h32, h58⟩ := hs
  refine .nsq ?_
  refine run_cond (t := t58_109) h58 h (fun h => ?_) (fun h => ?_)
  · refine run_reg ?_
    refine e_end ?_
    refine g_v1 (t := 7) (u := (encO (.at 7 []) (.of (best_92 : List Int)))) (encO (.at 7 []) (.of (best_92 : List Int))) h7 rfl rfl ?_
    refine g_v1 (t := 8) (u := (.int .i64 set_43)) (.int .i64 set_43) h8 rfl rfl ?_
    refine g_v1 (t := 11) (u := (.int .i64 (if e_107 > r_105 then e_107 else r_105))) (.int .i64 (if e_107 > r_105 then e_107 else r_105)) h11 rfl rfl ?_
    obtain ⟨e_112, E_e_112, h⟩ := bind_some h
    refine g_v (.ref (.at 7 []) set_43.toNat [] (.int .i64 e_112)) (ev_idxO (o := (.of best_92)) rfl rfl E_e_112 rfl) ?_
    refine g_store (.int .i64 (if e_107 > r_105 then e_107 else r_105)) (rd_of rfl rfl) (rd_of rfl rfl) (by refine ⟨by decide, by decide, rfl, rfl, rfl, ?_⟩; first | rfl | simp [V.toks, V.tokss, Enc.toks_enc]) ?_
    refine g_end ?_
    refine e_end ?_
    refine renew [(1, (.int .i64 none_2)), (2, (.fn 88 [(.agg [(Enc.enc (cost_3.fs.1.a : List Int))])] [])), (3, (.ref (.bx 3) 0 [] (.agg [(Enc.enc (w_1.a : List Int))]))), (6, (.sl .nl (Enc.shp Int) 0 [])), (7, (encO (.at 7 []) (.of (best_92.set set_43.toNat (if e_107 > r_105 then e_107 else r_105) : List Int)))), (8, (.int .i64 set_43)), (30, (Enc.enc (r_81 : List Int))), (31, (.int .i64 (r_81.length : Int))), (32, (.int .i64 t32_93))] ⟨(keep_mut h1 rfl), (keep_mut h2 (mut_fn (muts_cons (mut_agg (muts_cons (Enc.mut_enc _ _ _ _ (cost_3.fs.1.a : List Int)) rfl)) rfl) rfl)), (keep_mut h3 (mut_ref_ne rfl rfl (mut_agg (muts_cons (Enc.mut_enc _ _ _ _ (w_1.a : List Int)) rfl)))), (keep_mut h6 rfl), (keep_mut h7 mut_own), (keep_mut h8 rfl), (keep_mut h30 (Enc.mut_enc _ _ _ _ (r_81 : List Int))), (keep_mut h31 rfl), (keep_mut h32 rfl)⟩ ?_
    rintro s ⟨h1, h2, h3, h6, h7, h8, h30, h31, h32⟩
    exact t_f87s1_j1 H none_2 cost_3 w_1 set_43 r_81 t32_93 c1 Hc1 c4 Hc4 (best_92.set set_43.toNat (if e_107 > r_105 then e_107 else r_105)) _ ⟨h1, h2, h3, h6, h7, h8, h30, h31, h32⟩ h
  · refine .skip ?_
    exact t_f87s1_j1 H none_2 cost_3 w_1 set_43 r_81 t32_93 c1 Hc1 c4 Hc4 best_92 _ ⟨h1, h2, h3, h6, h7, h8, h30, h31, h32⟩ h
def i_net_bestOrders_of_i_net_cut_l1 (F : Nat) (none_2 : Int) (cost_3 : (Cl 88 ((S1 (List Int)) × Unit) Unit)) (w_1 : (S1 (List Int))) (set_43 : Int) (r_81 : (List Int)) (c1 : (List Int) → Int → Option (List Int)) : Nat → (List Int) → Int → Option (List Int)
  | 0, _, _ => none
  | k + 1, best_92, t32_93 =>
    bif decide (t32_93 < (r_81.length : Int)) then
      (idx r_81 t32_93).bind fun e_104 =>
      (i_net_cut F cost_3.fs.1 set_43 e_104).bind fun r_105 =>
      (shlI .i64 1 e_104).bind fun q_106 =>
      (idx best_92 (ior .i64 set_43 q_106)).bind fun e_107 =>
      bif (t32_93 == 0) then
        i_net_bestOrders_of_i_net_cut_j2 F none_2 cost_3 w_1 best_92 set_43 e_107 r_105 r_81 t32_93 c1 (i_net_bestOrders_of_i_net_cut_l1 F none_2 cost_3 w_1 set_43 r_81 c1 k) true
      else
        (idx best_92 set_43).bind fun e_113 =>
        i_net_bestOrders_of_i_net_cut_j2 F none_2 cost_3 w_1 best_92 set_43 e_107 r_105 r_81 t32_93 c1 (i_net_bestOrders_of_i_net_cut_l1 F none_2 cost_3 w_1 set_43 r_81 c1 k) (decide ((if e_107 > r_105 then e_107 else r_105) < e_113))
    else
      c1 best_92 (w64 (set_43 - 1))
theorem t_f87s1_l1 (H : H87s1 D σ F) (none_2 : Int) (cost_3 : (Cl 88 ((S1 (List Int)) × Unit) Unit)) (w_1 : (S1 (List Int))) (set_43 : Int) (r_81 : (List Int)) (c1 : (List Int) → Int → Option (List Int)) (Hc1 : ∀ (best_42 : (List Int)) (set_43 : Int) (s : Nat → V), Facts [(1, (.int .i64 none_2)), (2, (.fn 88 [(.agg [(Enc.enc (cost_3.fs.1.a : List Int))])] [])), (3, (.ref (.bx 3) 0 [] (.agg [(Enc.enc (w_1.a : List Int))]))), (6, (.sl .nl (Enc.shp Int) 0 [])), (7, (encO (.at 7 []) (.of (best_42 : List Int)))), (8, (.int .i64 set_43))] s → c1 best_42 set_43 = some r → Run D σ (R87s1 r) (.run A87s1_1 [.lp A87s1_1, .bk 0, .sq A87s1_14]) s) : ∀ (k : Nat) (best_92 : (List Int)) (t32_93 : Int) (s : Nat → V), Facts [(1, (.int .i64 none_2)), (2, (.fn 88 [(.agg [(Enc.enc (cost_3.fs.1.a : List Int))])] [])), (3, (.ref (.bx 3) 0 [] (.agg [(Enc.enc (w_1.a : List Int))]))), (6, (.sl .nl (Enc.shp Int) 0 [])), (7, (encO (.at 7 []) (.of (best_92 : List Int)))), (8, (.int .i64 set_43)), (30, (Enc.enc (r_81 : List Int))), (31, (.int .i64 (r_81.length : Int))), (32, (.int .i64 t32_93))] s → i_net_bestOrders_of_i_net_cut_l1 F none_2 cost_3 w_1 set_43 r_81 c1 k best_92 t32_93 = some r → Run D σ (R87s1 r) (.run A87s1_6 [.lp A87s1_6, .bk 2, .bk 1, .sq A87s1_13, .lp A87s1_1, .bk 0, .sq A87s1_14]) s := by
  intro k
  induction k with
  | zero => intro best_92 t32_93 s _ h; exact nomatch (h : (none : Option _) = some r)
  | succ k ih =>
    intro best_92 t32_93 s hs h
    rw [i_net_bestOrders_of_i_net_cut_l1] at h
    obtain ⟨h1, h2, h3, h6, h7, h8, h30, h31, h32⟩ := hs
    refine .seq ?_
    refine run_reg ?_
    refine e_end ?_
    refine g_v2 (t1 := 32) (t2 := 31) (u1 := (.int .i64 t32_93)) (u2 := (.int .i64 (r_81.length : Int))) (.bool (decide (t32_93 < (r_81.length : Int)))) h32 h31 rfl rfl ?_
    refine g_end ?_
    refine e_end ?_
    refine renew [(1, (.int .i64 none_2)), (2, (.fn 88 [(.agg [(Enc.enc (cost_3.fs.1.a : List Int))])] [])), (3, (.ref (.bx 3) 0 [] (.agg [(Enc.enc (w_1.a : List Int))]))), (6, (.sl .nl (Enc.shp Int) 0 [])), (7, (encO (.at 7 []) (.of (best_92 : List Int)))), (8, (.int .i64 set_43)), (30, (Enc.enc (r_81 : List Int))), (31, (.int .i64 (r_81.length : Int))), (32, (.int .i64 t32_93)), (33, (.bool (decide (t32_93 < (r_81.length : Int)))))] ⟨h1, h2, h3, h6, h7, h8, h30, h31, h32, rfl⟩ ?_
    rintro s ⟨h1, h2, h3, h6, h7, h8, h30, h31, h32, h33⟩
    refine .nsq ?_
    refine .seq ?_
    refine run_cond (t := decide (t32_93 < (r_81.length : Int))) h33 h (fun h => ?_) (fun h => ?_)
    · refine .skip ?_
      refine .nsq ?_
      refine .seq ?_
      refine .block ?_
      refine .seq ?_
      refine run_reg ?_
      refine e_end ?_
      refine g_v1 (t := 32) (u := (.int .i64 t32_93)) (.int .i64 t32_93) h32 rfl rfl ?_
      obtain ⟨e_104, E_e_104, h⟩ := bind_some h
      refine g_v (.ref .sh 0 [] (.int .i64 e_104)) (ev_idx (t := .sh) (lo := 0) (xs := r_81) h30 h32 E_e_104 rfl rfl) ?_
      refine g_v1 (t := 35) (u := (.ref .sh 0 [] (.int .i64 e_104))) (.int .i64 e_104) rfl rfl rfl ?_
      refine g_v1 (t := 34) (u := (.int .i64 t32_93)) (.int .i64 t32_93) rfl rfl rfl ?_
      refine g_v1 (t := 36) (u := (.int .i64 e_104)) (.int .i64 e_104) rfl rfl rfl ?_
      refine g_end ?_
      refine e_end ?_
      refine renew [(1, (.int .i64 none_2)), (2, (.fn 88 [(.agg [(Enc.enc (cost_3.fs.1.a : List Int))])] [])), (3, (.ref (.bx 3) 0 [] (.agg [(Enc.enc (w_1.a : List Int))]))), (6, (.sl .nl (Enc.shp Int) 0 [])), (7, (encO (.at 7 []) (.of (best_92 : List Int)))), (8, (.int .i64 set_43)), (9, (.int .i64 t32_93)), (10, (.int .i64 e_104)), (30, (Enc.enc (r_81 : List Int))), (31, (.int .i64 (r_81.length : Int))), (32, (.int .i64 t32_93))] ⟨h1, h2, h3, h6, h7, h8, rfl, rfl, h30, h31, h32⟩ ?_
      rintro s ⟨h1, h2, h3, h6, h7, h8, h9, h10, h30, h31, h32⟩
      refine .nsq ?_
      refine .seq ?_
      refine run_reg ?_
      refine e_end ?_
      refine g_v1 (t := 2) (u := (.fn 88 [(.agg [(Enc.enc (cost_3.fs.1.a : List Int))])] [])) (.fn 88 [(.agg [(Enc.enc (cost_3.fs.1.a : List Int))])] []) h2 rfl rfl ?_
      refine g_v1 (t := 8) (u := (.int .i64 set_43)) (.int .i64 set_43) h8 rfl rfl ?_
      refine g_v1 (t := 10) (u := (.int .i64 e_104)) (.int .i64 e_104) h10 rfl rfl ?_
      obtain ⟨r_105, E_r_105, h⟩ := bind_some h
      refine g_callF (m := 0) (al := false) (r := (Enc.enc (r_105 : Int))) (fs := [(.agg [(Enc.enc (cost_3.fs.1.a : List Int))])]) (env := []) (us := [Enc.enc (cost_3.fs.1 : (S1 (List Int)))]) (ws := []) rfl (erases_cons (Enc.erase_enc (cost_3.fs.1 : (S1 (List Int)))) erases_nil) erases_nil rfl [Enc.enc (set_43 : Int), Enc.enc (e_104 : Int)] (ta_cons (v := (.int .i64 set_43)) rfl rfl rfl (ta_cons (v := (.int .i64 e_104)) rfl rfl rfl ta_nil)) (H.c88 _ _ _ _ E_r_105) H.g88 rfl rfl rfl rfl ?_
      refine g_v1 (t := 7) (u := (encO (.at 7 []) (.of (best_92 : List Int)))) (encO (.at 7 []) (.of (best_92 : List Int))) h7 rfl rfl ?_
      refine g_v1 (t := 8) (u := (.int .i64 set_43)) (.int .i64 set_43) h8 rfl rfl ?_
      refine g_v1 (t := 10) (u := (.int .i64 e_104)) (.int .i64 e_104) h10 rfl rfl ?_
      obtain ⟨q_106, E_q_106, h⟩ := bind_some h
      refine g_v (.int .i64 q_106) (ev_shl rfl rfl E_q_106) ?_
      refine g_v2 (t1 := 42) (t2 := 44) (u1 := (.int .i64 set_43)) (u2 := (.int .i64 q_106)) (.int .i64 (ior .i64 set_43 q_106)) rfl rfl rfl rfl ?_
      obtain ⟨e_107, E_e_107, h⟩ := bind_some h
      refine g_v (.ref (.at 7 []) ((ior .i64 set_43 q_106).toNat) [] (.int .i64 e_107)) (ev_idxO (o := (.of best_92)) rfl rfl E_e_107 rfl) ?_
      refine g_v1 (t := 46) (u := (.ref (.at 7 []) ((ior .i64 set_43 q_106).toNat) [] (.int .i64 e_107))) (.int .i64 e_107) rfl rfl rfl ?_
      refine g_v2 (t1 := 40) (t2 := 47) (u1 := (.int .i64 r_105)) (u2 := (.int .i64 e_107)) (.int .i64 (if e_107 > r_105 then e_107 else r_105)) rfl rfl rfl rfl ?_
      refine g_v1 (t := 48) (u := (.int .i64 (if e_107 > r_105 then e_107 else r_105))) (.int .i64 (if e_107 > r_105 then e_107 else r_105)) rfl rfl rfl ?_
      refine g_end ?_
      refine e_end ?_
      refine renew [(1, (.int .i64 none_2)), (2, (.fn 88 [(.agg [(Enc.enc (cost_3.fs.1.a : List Int))])] [])), (3, (.ref (.bx 3) 0 [] (.agg [(Enc.enc (w_1.a : List Int))]))), (6, (.sl .nl (Enc.shp Int) 0 [])), (7, (encO (.at 7 []) (.of (best_92 : List Int)))), (8, (.int .i64 set_43)), (9, (.int .i64 t32_93)), (11, (.int .i64 (if e_107 > r_105 then e_107 else r_105))), (30, (Enc.enc (r_81 : List Int))), (31, (.int .i64 (r_81.length : Int))), (32, (.int .i64 t32_93))] ⟨h1, h2, h3, h6, h7, h8, h9, rfl, h30, h31, h32⟩ ?_
      rintro s ⟨h1, h2, h3, h6, h7, h8, h9, h11, h30, h31, h32⟩
      refine .nsq ?_
      refine .seq ?_
      refine run_reg ?_
      refine e_end ?_
      refine g_v1 (t := 9) (u := (.int .i64 t32_93)) (.int .i64 t32_93) h9 rfl rfl ?_
      refine g_v1 (t := 49) (u := (.int .i64 t32_93)) (.bool (t32_93 == 0)) rfl rfl rfl ?_
      refine g_v1 (t := 50) (u := (.bool (t32_93 == 0))) (.bool (t32_93 == 0)) rfl rfl rfl ?_
      refine split_on (c := (t32_93 == 0)) h (fun hg3 h => ?_) (fun hg3 h => ?_)
      · refine g_no (Eq.trans (b := .bool (t32_93 == 0)) rfl (congrArg V.bool hg3)) ?_
        refine g_no (Eq.trans (b := .bool (t32_93 == 0)) rfl (congrArg V.bool hg3)) ?_
        refine g_no (Eq.trans (b := .bool (t32_93 == 0)) rfl (congrArg V.bool hg3)) ?_
        refine g_no (Eq.trans (b := .bool (t32_93 == 0)) rfl (congrArg V.bool hg3)) ?_
        refine g_no (Eq.trans (b := .bool (t32_93 == 0)) rfl (congrArg V.bool hg3)) ?_
        refine g_no (Eq.trans (b := .bool (t32_93 == 0)) rfl (congrArg V.bool hg3)) ?_
        refine g_v2 (t1 := 51) (t2 := 57) (u1 := (.bool true)) (u2 := (.tup [])) (.bool true) (Eq.trans (b := .bool (t32_93 == 0)) rfl (congrArg V.bool hg3)) rfl rfl rfl ?_
        refine g_end ?_
        refine e_end ?_
        refine renew [(1, (.int .i64 none_2)), (2, (.fn 88 [(.agg [(Enc.enc (cost_3.fs.1.a : List Int))])] [])), (3, (.ref (.bx 3) 0 [] (.agg [(Enc.enc (w_1.a : List Int))]))), (6, (.sl .nl (Enc.shp Int) 0 [])), (7, (encO (.at 7 []) (.of (best_92 : List Int)))), (8, (.int .i64 set_43)), (11, (.int .i64 (if e_107 > r_105 then e_107 else r_105))), (30, (Enc.enc (r_81 : List Int))), (31, (.int .i64 (r_81.length : Int))), (32, (.int .i64 t32_93)), (58, (.bool true))] ⟨h1, h2, h3, h6, h7, h8, h11, h30, h31, h32, rfl⟩ ?_
        rintro s ⟨h1, h2, h3, h6, h7, h8, h11, h30, h31, h32, h58⟩
        exact t_f87s1_j2 H none_2 cost_3 w_1 best_92 set_43 e_107 r_105 r_81 t32_93 c1 Hc1 (i_net_bestOrders_of_i_net_cut_l1 F none_2 cost_3 w_1 set_43 r_81 c1 k) ih true _ ⟨h1, h2, h3, h6, h7, h8, h11, h30, h31, h32, h58⟩ h
      · refine g_yes (Eq.trans (b := .bool (t32_93 == 0)) rfl (congrArg V.bool hg3)) (g_v1 (t := 11) (u := (.int .i64 (if e_107 > r_105 then e_107 else r_105))) (.int .i64 (if e_107 > r_105 then e_107 else r_105)) h11 rfl rfl ?_)
        refine g_yes (Eq.trans (b := .bool (t32_93 == 0)) rfl (congrArg V.bool hg3)) (g_v1 (t := 7) (u := (encO (.at 7 []) (.of (best_92 : List Int)))) (encO (.at 7 []) (.of (best_92 : List Int))) h7 rfl rfl ?_)
        refine g_yes (Eq.trans (b := .bool (t32_93 == 0)) rfl (congrArg V.bool hg3)) (g_v1 (t := 8) (u := (.int .i64 set_43)) (.int .i64 set_43) h8 rfl rfl ?_)
        obtain ⟨e_113, E_e_113, h⟩ := bind_some h
        refine g_yes (Eq.trans (b := .bool (t32_93 == 0)) rfl (congrArg V.bool hg3)) (g_v (.ref (.at 7 []) set_43.toNat [] (.int .i64 e_113)) (ev_idxO (o := (.of best_92)) rfl rfl E_e_113 rfl) ?_)
        refine g_yes (Eq.trans (b := .bool (t32_93 == 0)) rfl (congrArg V.bool hg3)) (g_v1 (t := 55) (u := (.ref (.at 7 []) set_43.toNat [] (.int .i64 e_113))) (.int .i64 e_113) rfl rfl rfl ?_)
        refine g_yes (Eq.trans (b := .bool (t32_93 == 0)) rfl (congrArg V.bool hg3)) (g_v2 (t1 := 52) (t2 := 56) (u1 := (.int .i64 (if e_107 > r_105 then e_107 else r_105))) (u2 := (.int .i64 e_113)) (.bool (decide ((if e_107 > r_105 then e_107 else r_105) < e_113))) rfl rfl rfl rfl ?_)
        refine g_v2 (t1 := 51) (t2 := 57) (u1 := (.bool false)) (u2 := (.bool (decide ((if e_107 > r_105 then e_107 else r_105) < e_113)))) (.bool (decide ((if e_107 > r_105 then e_107 else r_105) < e_113))) (Eq.trans (b := .bool (t32_93 == 0)) rfl (congrArg V.bool hg3)) rfl rfl rfl ?_
        refine g_end ?_
        refine e_end ?_
        refine renew [(1, (.int .i64 none_2)), (2, (.fn 88 [(.agg [(Enc.enc (cost_3.fs.1.a : List Int))])] [])), (3, (.ref (.bx 3) 0 [] (.agg [(Enc.enc (w_1.a : List Int))]))), (6, (.sl .nl (Enc.shp Int) 0 [])), (7, (encO (.at 7 []) (.of (best_92 : List Int)))), (8, (.int .i64 set_43)), (11, (.int .i64 (if e_107 > r_105 then e_107 else r_105))), (30, (Enc.enc (r_81 : List Int))), (31, (.int .i64 (r_81.length : Int))), (32, (.int .i64 t32_93)), (58, (.bool (decide ((if e_107 > r_105 then e_107 else r_105) < e_113))))] ⟨h1, h2, h3, h6, h7, h8, h11, h30, h31, h32, rfl⟩ ?_
        rintro s ⟨h1, h2, h3, h6, h7, h8, h11, h30, h31, h32, h58⟩
        exact t_f87s1_j2 H none_2 cost_3 w_1 best_92 set_43 e_107 r_105 r_81 t32_93 c1 Hc1 (i_net_bestOrders_of_i_net_cut_l1 F none_2 cost_3 w_1 set_43 r_81 c1 k) ih (decide ((if e_107 > r_105 then e_107 else r_105) < e_113)) _ ⟨h1, h2, h3, h6, h7, h8, h11, h30, h31, h32, h58⟩ h
    · refine .exit ?_
      refine .esq ?_
      refine .elp ?_
      refine .ebk ?_
      refine .nbk ?_
      refine .nsq ?_
      refine run_reg ?_
      refine e_end ?_
      refine g_v1 (t := 8) (u := (.int .i64 set_43)) (.int .i64 set_43) h8 rfl rfl ?_
      refine g_v1 (t := 20) (u := (.int .i64 set_43)) (.int .i64 (w64 (set_43 - 1))) rfl rfl rfl ?_
      refine g_v1 (t := 21) (u := (.int .i64 (w64 (set_43 - 1)))) (.int .i64 (w64 (set_43 - 1))) rfl rfl rfl ?_
      refine g_end ?_
      refine e_end ?_
      refine renew [(1, (.int .i64 none_2)), (2, (.fn 88 [(.agg [(Enc.enc (cost_3.fs.1.a : List Int))])] [])), (3, (.ref (.bx 3) 0 [] (.agg [(Enc.enc (w_1.a : List Int))]))), (6, (.sl .nl (Enc.shp Int) 0 [])), (7, (encO (.at 7 []) (.of (best_92 : List Int)))), (8, (.int .i64 (w64 (set_43 - 1))))] ⟨h1, h2, h3, h6, h7, rfl⟩ ?_
      rintro s ⟨h1, h2, h3, h6, h7, h8⟩
      refine .nlp ?_
      exact Hc1 best_92 (w64 (set_43 - 1)) _ ⟨h1, h2, h3, h6, h7, h8⟩ h
def i_net_bestOrders_of_i_net_cut_l2 (F : Nat) (none_2 : Int) (cost_3 : (Cl 88 ((S1 (List Int)) × Unit) Unit)) (w_1 : (S1 (List Int)))  : Nat → (List Int) → Int → Option (List Int)
  | 0, _, _ => none
  | k + 1, best_42, set_43 =>
    bif decide (set_43 ≥ 0) then
      (idx best_42 set_43).bind fun e_79 =>
      (i_net_all F w_1).bind fun r_80 =>
      (i_setOf F (iandNot .i64 r_80 set_43)).bind fun r_81 =>
      i_net_bestOrders_of_i_net_cut_l1 F none_2 cost_3 w_1 set_43 r_81 (i_net_bestOrders_of_i_net_cut_l2 F none_2 cost_3 w_1 k) F (best_42.set set_43.toNat none_2) 0
    else
      some best_42
theorem t_f87s1_l2 (H : H87s1 D σ F) (none_2 : Int) (cost_3 : (Cl 88 ((S1 (List Int)) × Unit) Unit)) (w_1 : (S1 (List Int)))  : ∀ (k : Nat) (best_42 : (List Int)) (set_43 : Int) (s : Nat → V), Facts [(1, (.int .i64 none_2)), (2, (.fn 88 [(.agg [(Enc.enc (cost_3.fs.1.a : List Int))])] [])), (3, (.ref (.bx 3) 0 [] (.agg [(Enc.enc (w_1.a : List Int))]))), (6, (.sl .nl (Enc.shp Int) 0 [])), (7, (encO (.at 7 []) (.of (best_42 : List Int)))), (8, (.int .i64 set_43))] s → i_net_bestOrders_of_i_net_cut_l2 F none_2 cost_3 w_1 k best_42 set_43 = some r → Run D σ (R87s1 r) (.run A87s1_1 [.lp A87s1_1, .bk 0, .sq A87s1_14]) s := by
  intro k
  induction k with
  | zero => intro best_42 set_43 s _ h; exact nomatch (h : (none : Option _) = some r)
  | succ k ih =>
    intro best_42 set_43 s hs h
    rw [i_net_bestOrders_of_i_net_cut_l2] at h
    obtain ⟨h1, h2, h3, h6, h7, h8⟩ := hs
    refine .seq ?_
    refine .seq ?_
    refine run_reg ?_
    refine e_end ?_
    refine g_v1 (t := 8) (u := (.int .i64 set_43)) (.int .i64 set_43) h8 rfl rfl ?_
    refine g_v1 (t := 18) (u := (.int .i64 set_43)) (.bool (decide (set_43 ≥ 0))) rfl rfl rfl ?_
    refine g_end ?_
    refine e_end ?_
    refine renew [(1, (.int .i64 none_2)), (2, (.fn 88 [(.agg [(Enc.enc (cost_3.fs.1.a : List Int))])] [])), (3, (.ref (.bx 3) 0 [] (.agg [(Enc.enc (w_1.a : List Int))]))), (6, (.sl .nl (Enc.shp Int) 0 [])), (7, (encO (.at 7 []) (.of (best_42 : List Int)))), (8, (.int .i64 set_43)), (19, (.bool (decide (set_43 ≥ 0))))] ⟨h1, h2, h3, h6, h7, h8, rfl⟩ ?_
    rintro s ⟨h1, h2, h3, h6, h7, h8, h19⟩
    refine .nsq ?_
    refine run_cond (t := decide (set_43 ≥ 0)) h19 h (fun h => ?_) (fun h => ?_)
    · refine .skip ?_
      refine .nsq ?_
      refine .seq ?_
      refine .block ?_
      refine .seq ?_
      refine run_reg ?_
      refine e_end ?_
      refine g_v1 (t := 7) (u := (encO (.at 7 []) (.of (best_42 : List Int)))) (encO (.at 7 []) (.of (best_42 : List Int))) h7 rfl rfl ?_
      refine g_v1 (t := 8) (u := (.int .i64 set_43)) (.int .i64 set_43) h8 rfl rfl ?_
      refine g_v1 (t := 1) (u := (.int .i64 none_2)) (.int .i64 none_2) h1 rfl rfl ?_
      obtain ⟨e_79, E_e_79, h⟩ := bind_some h
      refine g_v (.ref (.at 7 []) set_43.toNat [] (.int .i64 e_79)) (ev_idxO (o := (.of best_42)) rfl rfl E_e_79 rfl) ?_
      refine g_store (.int .i64 none_2) (rd_of rfl rfl) (rd_of rfl rfl) (by refine ⟨by decide, by decide, rfl, rfl, rfl, ?_⟩; first | rfl | simp [V.toks, V.tokss, Enc.toks_enc]) ?_
      refine g_end ?_
      refine e_end ?_
      refine renew [(1, (.int .i64 none_2)), (2, (.fn 88 [(.agg [(Enc.enc (cost_3.fs.1.a : List Int))])] [])), (3, (.ref (.bx 3) 0 [] (.agg [(Enc.enc (w_1.a : List Int))]))), (6, (.sl .nl (Enc.shp Int) 0 [])), (7, (encO (.at 7 []) (.of (best_42.set set_43.toNat none_2 : List Int)))), (8, (.int .i64 set_43))] ⟨(keep_mut h1 rfl), (keep_mut h2 (mut_fn (muts_cons (mut_agg (muts_cons (Enc.mut_enc _ _ _ _ (cost_3.fs.1.a : List Int)) rfl)) rfl) rfl)), (keep_mut h3 (mut_ref_ne rfl rfl (mut_agg (muts_cons (Enc.mut_enc _ _ _ _ (w_1.a : List Int)) rfl)))), (keep_mut h6 rfl), (keep_mut h7 mut_own), (keep_mut h8 rfl)⟩ ?_
      rintro s ⟨h1, h2, h3, h6, h7, h8⟩
      refine .nsq ?_
      refine .seq ?_
      refine run_reg ?_
      refine e_end ?_
      refine g_v1 (t := 3) (u := (.ref (.bx 3) 0 [] (.agg [(Enc.enc (w_1.a : List Int))]))) (.agg [(Enc.enc (w_1.a : List Int))]) h3 rfl rfl ?_
      obtain ⟨r_80, E_r_80, h⟩ := bind_some h
      refine g_call (m := 0) (al := false) (r := (Enc.enc (r_80 : Int))) [Enc.enc (w_1 : (S1 (List Int)))] (ta_cons (v := (.agg [(Enc.enc (w_1.a : List Int))])) rfl rfl (Enc.erase_enc (w_1 : (S1 (List Int)))) ta_nil) (H.c59 _ _ E_r_80) H.g59 rfl rfl rfl rfl ?_
      refine g_v1 (t := 8) (u := (.int .i64 set_43)) (.int .i64 set_43) h8 rfl rfl ?_
      refine g_v2 (t1 := 27) (t2 := 28) (u1 := (.int .i64 r_80)) (u2 := (.int .i64 set_43)) (.int .i64 (iandNot .i64 r_80 set_43)) rfl rfl rfl rfl ?_
      obtain ⟨r_81, E_r_81, h⟩ := bind_some h
      refine g_call (m := 0) (al := false) (r := (Enc.enc (r_81 : (List Int)))) [Enc.enc (iandNot .i64 r_80 set_43 : Int)] (ta_cons (v := (.int .i64 (iandNot .i64 r_80 set_43))) rfl rfl rfl ta_nil) (H.c60 _ _ E_r_81) H.g60 rfl rfl rfl rfl ?_
      refine g_v (.int .i64 (r_81.length : Int)) (ev_len (xs := r_81) rfl) ?_
      refine g_v0 (.int .i64 0) rfl rfl ?_
      refine g_end ?_
      refine e_end ?_
      refine renew [(1, (.int .i64 none_2)), (2, (.fn 88 [(.agg [(Enc.enc (cost_3.fs.1.a : List Int))])] [])), (3, (.ref (.bx 3) 0 [] (.agg [(Enc.enc (w_1.a : List Int))]))), (6, (.sl .nl (Enc.shp Int) 0 [])), (7, (encO (.at 7 []) (.of (best_42.set set_43.toNat none_2 : List Int)))), (8, (.int .i64 set_43)), (30, (Enc.enc (r_81 : List Int))), (31, (.int .i64 (r_81.length : Int))), (32, (.int .i64 0))] ⟨h1, h2, h3, h6, h7, h8, rfl, rfl, rfl⟩ ?_
      rintro s ⟨h1, h2, h3, h6, h7, h8, h30, h31, h32⟩
      refine .nsq ?_
      refine .block ?_
      refine .loop ?_
      exact t_f87s1_l1 H none_2 cost_3 w_1 set_43 r_81 (i_net_bestOrders_of_i_net_cut_l2 F none_2 cost_3 w_1 k) ih F (best_42.set set_43.toNat none_2) 0 _ ⟨h1, h2, h3, h6, h7, h8, h30, h31, h32⟩ h
    · refine .exit ?_
      refine .esq ?_
      refine .elp ?_
      refine .ebk ?_
      refine .nsq ?_
      refine .seq ?_
      refine run_reg ?_
      refine e_end ?_
      refine g_v1 (t := 7) (u := (encO (.at 7 []) (.of (best_42 : List Int)))) (encO (.at 7 []) (.of (best_42 : List Int))) h7 rfl rfl ?_
      refine g_v1 (t := 64) (u := (encO (.at 7 []) (.of (best_42 : List Int)))) (encO (.at 7 []) (.of (best_42 : List Int))) rfl rfl rfl ?_
      refine g_end ?_
      refine e_home (r := 7) (x := 6) (v := (encO (.at 7 []) (.of (best_42 : List Int)))) (by exact rfl) rfl (fun s_4 hg_4 => ?_)
      refine e_end ?_
      refine renew [(6, (encO (.at 6 []) (.of (best_42 : List Int))))] (hg_4 6 (encO (.at 7 []) (.of (best_42 : List Int))) (encO (.at 6 []) (.of (best_42 : List Int))) rfl (map_encO (r := 7) (p := []) rfl rfl)) ?_
      rintro s h6
      refine .nsq ?_
      refine .ret ?_
      have hr := Option.some.inj h
      subst hr
      exact rrA (res_tmp h6) (fin_retF (fin_own (o := .of best_42)) (mine_own rfl))
def i_net_bestOrders_of_i_net_cut (F : Nat) (w_1 : (S1 (List Int))) (none_2 : Int) (cost_3 : (Cl 88 ((S1 (List Int)) × Unit) Unit)) : Option (List Int) :=
  (i_net_all F w_1).bind fun r_4 =>
  (mkN (w64 (r_4 + 1)) (0 : Int)).bind fun mk_5 =>
  (i_net_all F w_1).bind fun r_6 =>
  i_net_bestOrders_of_i_net_cut_l2 F none_2 cost_3 w_1 F mk_5 r_6
theorem t87s1 (H : H87s1 D σ F) (w_1 : (S1 (List Int))) (none_2 : Int) (cost_3 : (Cl 88 ((S1 (List Int)) × Unit) Unit)) (s : Nat → V) (hs : Facts [(0, (.agg [(Enc.enc (w_1.a : List Int))])), (1, (.int .i64 none_2)), (2, (.fn 88 [(.agg [(Enc.enc (cost_3.fs.1.a : List Int))])] []))] s) (h : i_net_bestOrders_of_i_net_cut F w_1 none_2 cost_3 = some r) : Run D σ (R87s1 r) (.run A87s1 []) s := by
  unfold i_net_bestOrders_of_i_net_cut at h
  obtain ⟨h0, h1, h2⟩ := hs
  refine .seq ?_
  refine run_reg ?_
  refine e_clr ?_
  refine e_end ?_
  refine g_box (.agg [(Enc.enc (w_1.a : List Int))]) (rd_of (keep_clear (s := s) (pk := [3]) h0 rfl (map_agg (maps_cons (Enc.map_enc _ (w_1.a : List Int)) maps_nil))) rfl) (gone_clear (s := s) (pk := [3]) (t := 3) rfl) rfl ?_
  refine g_v0 (.sl .nl (Enc.shp Int) 0 []) rfl rfl ?_
  refine g_end ?_
  refine e_end ?_
  refine renew [(1, (.int .i64 none_2)), (2, (.fn 88 [(.agg [(Enc.enc (cost_3.fs.1.a : List Int))])] [])), (3, (.ref (.bx 3) 0 [] (.agg [(Enc.enc (w_1.a : List Int))]))), (6, (.sl .nl (Enc.shp Int) 0 []))] ⟨(keep_clear (s := s) (pk := [3]) h1 rfl rfl), (keep_clear (s := s) (pk := [3]) h2 rfl (map_fn (maps_cons (map_agg (maps_cons (Enc.map_enc _ (cost_3.fs.1.a : List Int)) maps_nil)) maps_nil) maps_nil)), rfl, rfl⟩ ?_
  rintro s ⟨h1, h2, h3, h6⟩
  refine .nsq ?_
  refine .seq ?_
  refine run_reg ?_
  refine e_clr ?_
  refine e_end ?_
  refine g_v1 (t := 3) (u := (.ref (.bx 3) 0 [] (.agg [(Enc.enc (w_1.a : List Int))]))) (.agg [(Enc.enc (w_1.a : List Int))]) (keep_clear (s := s) (pk := [15]) h3 rfl (map_bx rfl (map_agg (maps_cons (Enc.map_enc _ (w_1.a : List Int)) maps_nil)))) rfl rfl ?_
  obtain ⟨r_4, E_r_4, h⟩ := bind_some h
  refine g_call (m := 0) (al := false) (r := (Enc.enc (r_4 : Int))) [Enc.enc (w_1 : (S1 (List Int)))] (ta_cons (v := (.agg [(Enc.enc (w_1.a : List Int))])) rfl rfl (Enc.erase_enc (w_1 : (S1 (List Int)))) ta_nil) (H.c59 _ _ E_r_4) H.g59 rfl rfl rfl rfl ?_
  refine g_v1 (t := 13) (u := (.int .i64 r_4)) (.int .i64 (w64 (r_4 + 1))) rfl rfl rfl ?_
  obtain ⟨mk_5, E_mk_5, h⟩ := bind_some h
  refine g_mk (0 : Int) rfl rfl (gone_clear (s := s) (pk := [15]) (t := 15) rfl) E_mk_5 ?_
  refine g_v1 (t := 15) (u := (encO (.at 15 []) (.of (mk_5 : List Int)))) (encO (.at 15 []) (.of (mk_5 : List Int))) rfl rfl rfl ?_
  refine g_end ?_
  refine e_home (r := 15) (x := 7) (v := (encO (.at 15 []) (.of (mk_5 : List Int)))) (by exact rfl) rfl (fun s_3 hg_3 => ?_)
  refine e_end ?_
  refine renew [(1, (.int .i64 none_2)), (2, (.fn 88 [(.agg [(Enc.enc (cost_3.fs.1.a : List Int))])] [])), (3, (.ref (.bx 3) 0 [] (.agg [(Enc.enc (w_1.a : List Int))]))), (6, (.sl .nl (Enc.shp Int) 0 [])), (7, (encO (.at 7 []) (.of (mk_5 : List Int))))] ⟨(hg_3 1 (.int .i64 none_2) (.int .i64 none_2) (keep_clear (s := s) (pk := [15]) h1 rfl rfl) rfl), (hg_3 2 (.fn 88 [(.agg [(Enc.enc (cost_3.fs.1.a : List Int))])] []) (.fn 88 [(.agg [(Enc.enc (cost_3.fs.1.a : List Int))])] []) (keep_clear (s := s) (pk := [15]) h2 rfl (map_fn (maps_cons (map_agg (maps_cons (Enc.map_enc _ (cost_3.fs.1.a : List Int)) maps_nil)) maps_nil) maps_nil)) (map_fn (maps_cons (map_agg (maps_cons (Enc.map_enc _ (cost_3.fs.1.a : List Int)) maps_nil)) maps_nil) maps_nil)), (hg_3 3 (.ref (.bx 3) 0 [] (.agg [(Enc.enc (w_1.a : List Int))])) (.ref (.bx 3) 0 [] (.agg [(Enc.enc (w_1.a : List Int))])) (keep_clear (s := s) (pk := [15]) h3 rfl (map_bx rfl (map_agg (maps_cons (Enc.map_enc _ (w_1.a : List Int)) maps_nil)))) (map_bx rfl (map_agg (maps_cons (Enc.map_enc _ (w_1.a : List Int)) maps_nil)))), (hg_3 6 (.sl .nl (Enc.shp Int) 0 []) (.sl .nl (Enc.shp Int) 0 []) (keep_clear (s := s) (pk := [15]) h6 rfl rfl) rfl), (hg_3 7 (encO (.at 15 []) (.of (mk_5 : List Int))) (encO (.at 7 []) (.of (mk_5 : List Int))) rfl (map_encO (r := 15) (p := []) rfl rfl))⟩ ?_
  rintro s ⟨h1, h2, h3, h6, h7⟩
  refine .nsq ?_
  refine .seq ?_
  refine .seq ?_
  refine run_reg ?_
  refine e_end ?_
  refine g_v1 (t := 3) (u := (.ref (.bx 3) 0 [] (.agg [(Enc.enc (w_1.a : List Int))]))) (.agg [(Enc.enc (w_1.a : List Int))]) h3 rfl rfl ?_
  obtain ⟨r_6, E_r_6, h⟩ := bind_some h
  refine g_call (m := 0) (al := false) (r := (Enc.enc (r_6 : Int))) [Enc.enc (w_1 : (S1 (List Int)))] (ta_cons (v := (.agg [(Enc.enc (w_1.a : List Int))])) rfl rfl (Enc.erase_enc (w_1 : (S1 (List Int)))) ta_nil) (H.c59 _ _ E_r_6) H.g59 rfl rfl rfl rfl ?_
  refine g_v1 (t := 17) (u := (.int .i64 r_6)) (.int .i64 r_6) rfl rfl rfl ?_
  refine g_end ?_
  refine e_end ?_
  refine renew [(1, (.int .i64 none_2)), (2, (.fn 88 [(.agg [(Enc.enc (cost_3.fs.1.a : List Int))])] [])), (3, (.ref (.bx 3) 0 [] (.agg [(Enc.enc (w_1.a : List Int))]))), (6, (.sl .nl (Enc.shp Int) 0 [])), (7, (encO (.at 7 []) (.of (mk_5 : List Int)))), (8, (.int .i64 r_6))] ⟨h1, h2, h3, h6, h7, rfl⟩ ?_
  rintro s ⟨h1, h2, h3, h6, h7, h8⟩
  refine .nsq ?_
  refine .block ?_
  refine .loop ?_
  exact t_f87s1_l2 H none_2 cost_3 w_1 F mk_5 r_6 _ ⟨h1, h2, h3, h6, h7, h8⟩ h
end
def e87s1 (F : Nat) : Ent := ⟨87, da (fun (x : ((S1 (List Int)) × Int × (Cl 88 ((S1 (List Int)) × Unit) Unit) × Unit)) => i_net_bestOrders_of_i_net_cut F x.1 x.2.1 x.2.2.1) (fun (r : (List Int)) => (Enc.enc (r : (List Int)))), 0, false, selF [(2, 88)]⟩
theorem p87s1 {F : Nat} {x0 : (S1 (List Int))} {x1 : Int} {x2 : (Cl 88 ((S1 (List Int)) × Unit) Unit)} {r : (List Int)} (h : i_net_bestOrders_of_i_net_cut F x0 x1 x2 = some r) : (e87s1 F).den [Enc.enc x0, Enc.enc x1, Arg.arg x2] = some (Enc.enc (r : (List Int))) := da_put (f := fun (x : ((S1 (List Int)) × Int × (Cl 88 ((S1 (List Int)) × Unit) Unit) × Unit)) => i_net_bestOrders_of_i_net_cut F x.1 x.2.1 x.2.2.1) (t := fun (r : (List Int)) => (Enc.enc (r : (List Int)))) (x0, x1, x2, ()) h
theorem o87s1 {D : Den} {σ : Sig} {F : Nat} (hF : Fits2 Try.prog D σ) (H : H87s1 D σ F) : (e87s1 F).Ok Try.prog := by
  refine ok_of (f := 87) (show unk 87 = 87 from rfl) (fun args r h => ?_) ⟨Try.f87, Try.func87, rfl, rfl⟩
  obtain ⟨⟨x0, x1, x2, _⟩, y, rfl, hy, rfl⟩ := da_open h
  exact contract_run hF (by kernel_rfl) Try.func87 rfl c87s1 (show 3 ≤ Try.f87.ntmps by decide) (t87s1 H x0 x1 x2 _ ⟨rfl, rfl, rfl⟩ hy)
/- (loop.example/g01109/impl.net).firstOrder -/
def A89s1_2 : AC := (AC.cond (O.t 14) AC.skip (AC.exit 0))
def A89s1_10 : AC := (AC.seq (AC.reg [] [(I.mk (some 45) none false (X.v (A.mov (O.t 8)))), (I.mk (some 46) none false (X.v (A.mov (O.t 10)))), (I.mk (some 47) none false (X.v (A.bin BinOp.shl (O.k (V.int IntKind.i64 (Int.ofNat 1))) (O.t 46)))), (I.mk (some 48) none false (X.v (A.bin BinOp.or (O.t 45) (O.t 47)))), (I.mk (some 8) none false (X.v (A.mov (O.t 48))))] []) (AC.exit 2))
def A89s1_9 : AC := (AC.cond (O.t 40) (AC.seq (AC.reg [.clr [43, 44]] [(I.mk (some 41) none false (X.v (A.mov (O.t 7)))), (I.mk (some 42) none false (X.v (A.mov (O.t 10)))), (I.mk (some 43) none false (X.lit (V.int IntKind.i64 (Int.ofNat 0)) 1 [(0, 0, (O.t 42))])), (I.mk (some 44) none false (X.app Sh.s (O.t 41) (O.t 43))), (I.mk (some 7) none false (X.v (A.mov (O.t 44))))] [.home 44 7]) A89s1_10) AC.skip)
def A89s1_8 : AC := (AC.seq (AC.reg [] [(I.mk (some 25) none false (X.v (A.mov (O.t 2)))), (I.mk (some 26) none false (X.v (A.mov (O.t 8)))), (I.mk (some 27) none false (X.v (A.mov (O.t 10)))), (I.mk (some 28) none false (X.call (O.t 25) [(O.t 26), (O.t 27)])), (I.mk (some 29) none false (X.v (A.mov (O.t 1)))), (I.mk (some 30) none false (X.v (A.mov (O.t 8)))), (I.mk (some 31) none false (X.v (A.mov (O.t 10)))), (I.mk (some 32) none false (X.v (A.bin BinOp.shl (O.k (V.int IntKind.i64 (Int.ofNat 1))) (O.t 31)))), (I.mk (some 33) none false (X.v (A.bin BinOp.or (O.t 30) (O.t 32)))), (I.mk (some 34) none false (X.v (A.idx (O.t 29) (O.t 33) 1))), (I.mk (some 35) none false (X.v (A.load Sh.s (O.t 34)))), (I.mk (some 36) none false (X.v (A.mx [(O.t 28), (O.t 35)]))), (I.mk (some 37) none false (X.v (A.mov (O.t 1)))), (I.mk (some 38) none false (X.v (A.idx (O.t 37) (O.k (V.int IntKind.i64 (Int.ofNat 0))) 1))), (I.mk (some 39) none false (X.v (A.load Sh.s (O.t 38)))), (I.mk (some 40) none false (X.v (A.bin BinOp.leq (O.t 36) (O.t 39))))] []) A89s1_9)
def A89s1_11 : AC := (AC.reg [] [(I.mk (some 49) none false (X.v (A.bin BinOp.add (O.t 21) (O.k (V.int IntKind.i64 (Int.ofNat 1)))))), (I.mk (some 21) none false (X.v (A.mov (O.t 49))))] [])
def A89s1_7 : AC := (AC.seq (AC.block 3 (AC.seq (AC.reg [] [(I.mk (some 23) none false (X.v (A.idx (O.t 19) (O.t 21) 1))), (I.mk (some 24) none false (X.v (A.load Sh.s (O.t 23)))), (I.mk (some 10) none false (X.v (A.mov (O.t 24))))] []) A89s1_8)) A89s1_11)
def A89s1_6 : AC := (AC.seq (AC.cond (O.t 22) AC.skip (AC.exit 2)) A89s1_7)
def A89s1_5 : AC := (AC.seq (AC.reg [] [(I.mk (some 22) none false (X.v (A.bin BinOp.lss (O.t 21) (O.t 20))))] []) A89s1_6)
def A89s1_4 : AC := (AC.block 2 (AC.loop A89s1_5))
def A89s1_3 : AC := (AC.block 1 (AC.seq (AC.reg [] [(I.mk (some 15) none false (X.v (A.load (Sh.ag [Sh.p]) (O.t 3)))), (I.mk (some 16) none false (X.call (O.k (V.fn 59 [] [])) [(O.t 15)])), (I.mk (some 17) none false (X.v (A.mov (O.t 8)))), (I.mk (some 18) none false (X.v (A.bin BinOp.andNot (O.t 16) (O.t 17)))), (I.mk (some 19) none false (X.call (O.k (V.fn 60 [] [])) [(O.t 18)])), (I.mk (some 20) none false (X.v (A.len (O.t 19)))), (I.mk (some 21) none false (X.v (A.mov (O.k (V.int IntKind.i64 (Int.ofNat 0))))))] []) A89s1_4))
def A89s1_1 : AC := (AC.seq (AC.seq (AC.reg [] [(I.mk (some 11) none false (X.v (A.mov (O.t 8)))), (I.mk (some 12) none false (X.v (A.load (Sh.ag [Sh.p]) (O.t 3)))), (I.mk (some 13) none false (X.call (O.k (V.fn 59 [] [])) [(O.t 12)])), (I.mk (some 14) none false (X.v (A.bin BinOp.neq (O.t 11) (O.t 13))))] []) A89s1_2) A89s1_3)
def A89s1_12 : AC := (AC.seq (AC.reg [] [(I.mk (some 50) none false (X.v (A.mov (O.t 7)))), (I.mk (some 6) none false (X.v (A.mov (O.t 50))))] [.home 7 6]) AC.ret)
def A89s1_15 : AC := (AC.block 0 (AC.loop A89s1_1))
def A89s1_14 : AC := (AC.seq (AC.seq (AC.reg [] [(I.mk (some 8) none false (X.v (A.mov (O.k (V.int IntKind.i64 (Int.ofNat 0))))))] []) A89s1_15) A89s1_12)
def A89s1_13 : AC := (AC.seq (AC.reg [] [(I.mk (some 7) none false (X.v (A.mov (O.k (V.sl Tok.nl Sh.s 0 [])))))] []) A89s1_14)
def A89s1 : AC := (AC.seq (AC.reg [.clr [3]] [(I.mk (some 3) none false (X.box (O.t 0))), (I.mk (some 6) none false (X.v (A.mov (O.k (V.sl Tok.nl Sh.s 0 [])))))] []) A89s1_13)
def an89s1 : List An := [{ id := 0, pre := [.clr [3]], ep := [], lin := [], sp := [] }, { id := 8, pre := [.clr [43, 44]], ep := [.home 44 7], lin := [], sp := [] }, { id := 11, pre := [], ep := [.home 7 6], lin := [], sp := [] }]
theorem c89s1 : cC Try.prog Try.f89.ntmps an89s1 (Try.f89.body.getD .skip) = some A89s1 := by kernel_rfl
structure H89s1 (D : Den) (σ : Sig) (F : Nat) : Prop where
  c59 : ∀ (x0 : (S1 (List Int))) r, i_net_all F x0 = some r → D 59 [Enc.enc x0] = some (Enc.enc (r : Int))
  g59 : σ 59 = some (0, false)
  c60 : ∀ (x0 : Int) r, i_setOf F x0 = some r → D 60 [Enc.enc x0] = some (Enc.enc (r : (List Int)))
  g60 : σ 60 = some (0, false)
  c88 : ∀ (x0 : (S1 (List Int))) (x1 : Int) (x2 : Int) r, i_net_cut F x0 x1 x2 = some r → D 88 [Enc.enc x0, Enc.enc x1, Enc.enc x2] = some (Enc.enc (r : Int))
  g88 : σ 88 = some (0, false)
abbrev R89s1 (r : (List Int)) : (Nat → V) → Prop := RR Try.prog [.tmp 6] 0 false (Enc.enc (r : (List Int)))
section
variable {D : Den} {σ : Sig} {F : Nat} {r : (List Int)}
def i_net_firstOrder_of_i_net_cut_l1 (F : Nat) (best_2 : (List Int)) (cost_3 : (Cl 88 ((S1 (List Int)) × Unit) Unit)) (w_1 : (S1 (List Int))) (order_35 : (NL Int)) (set_36 : Int) (r_70 : (List Int)) (c1 : (NL Int) → Int → Option (List Int)) : Nat → Int → Option (List Int)
  | 0, _ => none
  | k + 1, t21_80 =>
    bif decide (t21_80 < (r_70.length : Int)) then
      (idx r_70 t21_80).bind fun e_90 =>
      (i_net_cut F cost_3.fs.1 set_36 e_90).bind fun r_91 =>
      (shlI .i64 1 e_90).bind fun q_92 =>
      (idx best_2 (ior .i64 set_36 q_92)).bind fun e_93 =>
      (idx best_2 0).bind fun e_94 =>
      bif decide ((if e_93 > r_91 then e_93 else r_91) ≤ e_94) then
        (appL order_35.list [e_90]).bind fun ap_97 =>
        (shlI .i64 1 e_90).bind fun q_98 =>
        c1 (.of ap_97) (ior .i64 set_36 q_98)
      else
        (i_net_firstOrder_of_i_net_cut_l1 F best_2 cost_3 w_1 order_35 set_36 r_70 c1 k) (w64 (t21_80 + 1))
    else
      c1 order_35 set_36
theorem t_f89s1_l1 (H : H89s1 D σ F) (best_2 : (List Int)) (cost_3 : (Cl 88 ((S1 (List Int)) × Unit) Unit)) (w_1 : (S1 (List Int))) (order_35 : (NL Int)) (set_36 : Int) (r_70 : (List Int)) (c1 : (NL Int) → Int → Option (List Int)) (Hc1 : ∀ (order_35 : (NL Int)) (set_36 : Int) (s : Nat → V), Facts [(1, (Enc.enc (best_2 : List Int))), (2, (.fn 88 [(.agg [(Enc.enc (cost_3.fs.1.a : List Int))])] [])), (3, (.ref (.bx 3) 0 [] (.agg [(Enc.enc (w_1.a : List Int))]))), (6, (.sl .nl (Enc.shp Int) 0 [])), (7, (encO (.at 7 []) (order_35 : NL Int))), (8, (.int .i64 set_36))] s → c1 order_35 set_36 = some r → Run D σ (R89s1 r) (.run A89s1_1 [.lp A89s1_1, .bk 0, .sq A89s1_12]) s) : ∀ (k : Nat) (t21_80 : Int) (s : Nat → V), Facts [(1, (Enc.enc (best_2 : List Int))), (2, (.fn 88 [(.agg [(Enc.enc (cost_3.fs.1.a : List Int))])] [])), (3, (.ref (.bx 3) 0 [] (.agg [(Enc.enc (w_1.a : List Int))]))), (6, (.sl .nl (Enc.shp Int) 0 [])), (7, (encO (.at 7 []) (order_35 : NL Int))), (8, (.int .i64 set_36)), (19, (Enc.enc (r_70 : List Int))), (20, (.int .i64 (r_70.length : Int))), (21, (.int .i64 t21_80))] s → i_net_firstOrder_of_i_net_cut_l1 F best_2 cost_3 w_1 order_35 set_36 r_70 c1 k t21_80 = some r → Run D σ (R89s1 r) (.run A89s1_5 [.lp A89s1_5, .bk 2, .bk 1, .lp A89s1_1, .bk 0, .sq A89s1_12]) s := by
  intro k
  induction k with
  | zero => intro t21_80 s _ h; exact nomatch (h : (none : Option _) = some r)
  | succ k ih =>
    intro t21_80 s hs h
    rw [i_net_firstOrder_of_i_net_cut_l1] at h
    obtain ⟨h1, h2, h3, h6, h7, h8, h19, h20, h21⟩ := hs
    refine .seq ?_
    refine run_reg ?_
    refine e_end ?_
    refine g_v2 (t1 := 21) (t2 := 20) (u1 := (.int .i64 t21_80)) (u2 := (.int .i64 (r_70.length : Int))) (.bool (decide (t21_80 < (r_70.length : Int)))) h21 h20 rfl rfl ?_
    refine g_end ?_
    refine e_end ?_
    refine renew [(1, (Enc.enc (best_2 : List Int))), (2, (.fn 88 [(.agg [(Enc.enc (cost_3.fs.1.a : List Int))])] [])), (3, (.ref (.bx 3) 0 [] (.agg [(Enc.enc (w_1.a : List Int))]))), (6, (.sl .nl (Enc.shp Int) 0 [])), (7, (encO (.at 7 []) (order_35 : NL Int))), (8, (.int .i64 set_36)), (19, (Enc.enc (r_70 : List Int))), (20, (.int .i64 (r_70.length : Int))), (21, (.int .i64 t21_80)), (22, (.bool (decide (t21_80 < (r_70.length : Int)))))] ⟨h1, h2, h3, h6, h7, h8, h19, h20, h21, rfl⟩ ?_
    rintro s ⟨h1, h2, h3, h6, h7, h8, h19, h20, h21, h22⟩
    refine .nsq ?_
    refine .seq ?_
    refine run_cond (t := decide (t21_80 < (r_70.length : Int))) h22 h (fun h => ?_) (fun h => ?_)
    · refine .skip ?_
      refine .nsq ?_
      refine .seq ?_
      refine .block ?_
      refine .seq ?_
      refine run_reg ?_
      refine e_end ?_
      obtain ⟨e_90, E_e_90, h⟩ := bind_some h
      refine g_v (.ref .sh 0 [] (.int .i64 e_90)) (ev_idx (t := .sh) (lo := 0) (xs := r_70) h19 h21 E_e_90 rfl rfl) ?_
      refine g_v1 (t := 23) (u := (.ref .sh 0 [] (.int .i64 e_90))) (.int .i64 e_90) rfl rfl rfl ?_
      refine g_v1 (t := 24) (u := (.int .i64 e_90)) (.int .i64 e_90) rfl rfl rfl ?_
      refine g_end ?_
      refine e_end ?_
      refine renew [(1, (Enc.enc (best_2 : List Int))), (2, (.fn 88 [(.agg [(Enc.enc (cost_3.fs.1.a : List Int))])] [])), (3, (.ref (.bx 3) 0 [] (.agg [(Enc.enc (w_1.a : List Int))]))), (6, (.sl .nl (Enc.shp Int) 0 [])), (7, (encO (.at 7 []) (order_35 : NL Int))), (8, (.int .i64 set_36)), (10, (.int .i64 e_90)), (19, (Enc.enc (r_70 : List Int))), (20, (.int .i64 (r_70.length : Int))), (21, (.int .i64 t21_80))] ⟨h1, h2, h3, h6, h7, h8, rfl, h19, h20, h21⟩ ?_
      rintro s ⟨h1, h2, h3, h6, h7, h8, h10, h19, h20, h21⟩
      refine .nsq ?_
      refine .seq ?_
      refine run_reg ?_
      refine e_end ?_
      refine g_v1 (t := 2) (u := (.fn 88 [(.agg [(Enc.enc (cost_3.fs.1.a : List Int))])] [])) (.fn 88 [(.agg [(Enc.enc (cost_3.fs.1.a : List Int))])] []) h2 rfl rfl ?_
      refine g_v1 (t := 8) (u := (.int .i64 set_36)) (.int .i64 set_36) h8 rfl rfl ?_
      refine g_v1 (t := 10) (u := (.int .i64 e_90)) (.int .i64 e_90) h10 rfl rfl ?_
      obtain ⟨r_91, E_r_91, h⟩ := bind_some h
      refine g_callF (m := 0) (al := false) (r := (Enc.enc (r_91 : Int))) (fs := [(.agg [(Enc.enc (cost_3.fs.1.a : List Int))])]) (env := []) (us := [Enc.enc (cost_3.fs.1 : (S1 (List Int)))]) (ws := []) rfl (erases_cons (Enc.erase_enc (cost_3.fs.1 : (S1 (List Int)))) erases_nil) erases_nil rfl [Enc.enc (set_36 : Int), Enc.enc (e_90 : Int)] (ta_cons (v := (.int .i64 set_36)) rfl rfl rfl (ta_cons (v := (.int .i64 e_90)) rfl rfl rfl ta_nil)) (H.c88 _ _ _ _ E_r_91) H.g88 rfl rfl rfl rfl ?_
      refine g_v1 (t := 1) (u := (Enc.enc (best_2 : List Int))) (Enc.enc (best_2 : List Int)) h1 rfl rfl ?_
      refine g_v1 (t := 8) (u := (.int .i64 set_36)) (.int .i64 set_36) h8 rfl rfl ?_
      refine g_v1 (t := 10) (u := (.int .i64 e_90)) (.int .i64 e_90) h10 rfl rfl ?_
      obtain ⟨q_92, E_q_92, h⟩ := bind_some h
      refine g_v (.int .i64 q_92) (ev_shl rfl rfl E_q_92) ?_
      refine g_v2 (t1 := 30) (t2 := 32) (u1 := (.int .i64 set_36)) (u2 := (.int .i64 q_92)) (.int .i64 (ior .i64 set_36 q_92)) rfl rfl rfl rfl ?_
      obtain ⟨e_93, E_e_93, h⟩ := bind_some h
      refine g_v (.ref .sh 0 [] (.int .i64 e_93)) (ev_idx (t := .sh) (lo := 0) (xs := best_2) rfl rfl E_e_93 rfl rfl) ?_
      refine g_v1 (t := 34) (u := (.ref .sh 0 [] (.int .i64 e_93))) (.int .i64 e_93) rfl rfl rfl ?_
      refine g_v2 (t1 := 28) (t2 := 35) (u1 := (.int .i64 r_91)) (u2 := (.int .i64 e_93)) (.int .i64 (if e_93 > r_91 then e_93 else r_91)) rfl rfl rfl rfl ?_
      refine g_v1 (t := 1) (u := (Enc.enc (best_2 : List Int))) (Enc.enc (best_2 : List Int)) h1 rfl rfl ?_
      obtain ⟨e_94, E_e_94, h⟩ := bind_some h
      refine g_v (.ref .sh 0 [] (.int .i64 e_94)) (ev_idx (t := .sh) (lo := 0) (xs := best_2) rfl rfl E_e_94 rfl rfl) ?_
      refine g_v1 (t := 38) (u := (.ref .sh 0 [] (.int .i64 e_94))) (.int .i64 e_94) rfl rfl rfl ?_
      refine g_v2 (t1 := 36) (t2 := 39) (u1 := (.int .i64 (if e_93 > r_91 then e_93 else r_91))) (u2 := (.int .i64 e_94)) (.bool (decide ((if e_93 > r_91 then e_93 else r_91) ≤ e_94))) rfl rfl rfl rfl ?_
      refine g_end ?_
      refine e_end ?_
      refine renew [(1, (Enc.enc (best_2 : List Int))), (2, (.fn 88 [(.agg [(Enc.enc (cost_3.fs.1.a : List Int))])] [])), (3, (.ref (.bx 3) 0 [] (.agg [(Enc.enc (w_1.a : List Int))]))), (6, (.sl .nl (Enc.shp Int) 0 [])), (7, (encO (.at 7 []) (order_35 : NL Int))), (8, (.int .i64 set_36)), (10, (.int .i64 e_90)), (19, (Enc.enc (r_70 : List Int))), (20, (.int .i64 (r_70.length : Int))), (21, (.int .i64 t21_80)), (40, (.bool (decide ((if e_93 > r_91 then e_93 else r_91) ≤ e_94))))] ⟨h1, h2, h3, h6, h7, h8, h10, h19, h20, h21, rfl⟩ ?_
      rintro s ⟨h1, h2, h3, h6, h7, h8, h10, h19, h20, h21, h40⟩
      refine .nsq ?_
      refine run_cond (t := decide ((if e_93 > r_91 then e_93 else r_91) ≤ e_94)) h40 h (fun h => ?_) (fun h => ?_)
      · refine .seq ?_
        refine run_reg ?_
        refine e_clr ?_
        refine e_end ?_
        refine g_v (encO (.at 7 []) (order_35 : NL Int)) (ev_mov (keep_clear (s := s) (pk := [43, 44]) h7 rfl (map_encO (r := 7) (p := []) rfl rfl)) ok_encO) ?_
        refine g_v1 (t := 10) (u := (.int .i64 e_90)) (.int .i64 e_90) (keep_clear (s := s) (pk := [43, 44]) h10 rfl rfl) rfl rfl ?_
        refine g_litL [(42, (.int .i64 e_90))] [Enc.enc (e_90 : Int)] rfl rfl rfl (gone_clear (s := s) (pk := [43, 44]) (t := 43) rfl) ?_
        obtain ⟨ap_97, E_ap_97, h⟩ := bind_some h
        refine g_app (q := 7) (p := []) (o := (order_35 : NL Int)) (ys := ([e_90] : List Int)) (t2 := (.at 43 [])) (lo2 := 0) rfl rfl rfl (gone_clear (s := s) (pk := [43, 44]) (t := 44) rfl) (appN_L (o := (order_35 : NL Int)) E_ap_97 (by split <;> simp)) (fun s_54 ha_54 => ?_)
        refine g_v1 (t := 44) (u := (encO (.at 44 []) (.of (ap_97 : List Int)))) (encO (.at 44 []) (.of (ap_97 : List Int))) rfl rfl rfl ?_
        refine g_end ?_
        refine e_home (r := 44) (x := 7) (v := (encO (.at 44 []) (.of (ap_97 : List Int)))) (by exact rfl) rfl (fun s_55 hg_55 => ?_)
        refine e_end ?_
        refine renew [(1, (Enc.enc (best_2 : List Int))), (2, (.fn 88 [(.agg [(Enc.enc (cost_3.fs.1.a : List Int))])] [])), (3, (.ref (.bx 3) 0 [] (.agg [(Enc.enc (w_1.a : List Int))]))), (6, (.sl .nl (Enc.shp Int) 0 [])), (7, (encO (.at 7 []) (.of (ap_97 : List Int)))), (8, (.int .i64 set_36)), (10, (.int .i64 e_90)), (19, (Enc.enc (r_70 : List Int))), (20, (.int .i64 (r_70.length : Int))), (21, (.int .i64 t21_80))] ⟨(hg_55 1 (Enc.enc (best_2 : List Int)) (Enc.enc (best_2 : List Int)) (show s_54 1 = (Enc.enc (best_2 : List Int)) from keep_app ha_54 (keep_clear (s := s) (pk := [43, 44]) h1 rfl (Enc.map_enc _ (best_2 : List Int))) (Enc.map_enc _ (best_2 : List Int))) (Enc.map_enc _ (best_2 : List Int))), (hg_55 2 (.fn 88 [(.agg [(Enc.enc (cost_3.fs.1.a : List Int))])] []) (.fn 88 [(.agg [(Enc.enc (cost_3.fs.1.a : List Int))])] []) (show s_54 2 = (.fn 88 [(.agg [(Enc.enc (cost_3.fs.1.a : List Int))])] []) from keep_app ha_54 (keep_clear (s := s) (pk := [43, 44]) h2 rfl (map_fn (maps_cons (map_agg (maps_cons (Enc.map_enc _ (cost_3.fs.1.a : List Int)) maps_nil)) maps_nil) maps_nil)) (map_fn (maps_cons (map_agg (maps_cons (Enc.map_enc _ (cost_3.fs.1.a : List Int)) maps_nil)) maps_nil) maps_nil)) (map_fn (maps_cons (map_agg (maps_cons (Enc.map_enc _ (cost_3.fs.1.a : List Int)) maps_nil)) maps_nil) maps_nil)), (hg_55 3 (.ref (.bx 3) 0 [] (.agg [(Enc.enc (w_1.a : List Int))])) (.ref (.bx 3) 0 [] (.agg [(Enc.enc (w_1.a : List Int))])) (show s_54 3 = (.ref (.bx 3) 0 [] (.agg [(Enc.enc (w_1.a : List Int))])) from keep_app ha_54 (keep_clear (s := s) (pk := [43, 44]) h3 rfl (map_bx rfl (map_agg (maps_cons (Enc.map_enc _ (w_1.a : List Int)) maps_nil)))) (map_bx rfl (map_agg (maps_cons (Enc.map_enc _ (w_1.a : List Int)) maps_nil)))) (map_bx rfl (map_agg (maps_cons (Enc.map_enc _ (w_1.a : List Int)) maps_nil)))), (hg_55 6 (.sl .nl (Enc.shp Int) 0 []) (.sl .nl (Enc.shp Int) 0 []) (show s_54 6 = (.sl .nl (Enc.shp Int) 0 []) from keep_app ha_54 (keep_clear (s := s) (pk := [43, 44]) h6 rfl rfl) rfl) rfl), (hg_55 7 (encO (.at 44 []) (.of (ap_97 : List Int))) (encO (.at 7 []) (.of (ap_97 : List Int))) rfl (map_encO (r := 44) (p := []) rfl rfl)), (hg_55 8 (.int .i64 set_36) (.int .i64 set_36) (show s_54 8 = (.int .i64 set_36) from keep_app ha_54 (keep_clear (s := s) (pk := [43, 44]) h8 rfl rfl) rfl) rfl), (hg_55 10 (.int .i64 e_90) (.int .i64 e_90) (show s_54 10 = (.int .i64 e_90) from keep_app ha_54 (keep_clear (s := s) (pk := [43, 44]) h10 rfl rfl) rfl) rfl), (hg_55 19 (Enc.enc (r_70 : List Int)) (Enc.enc (r_70 : List Int)) (show s_54 19 = (Enc.enc (r_70 : List Int)) from keep_app ha_54 (keep_clear (s := s) (pk := [43, 44]) h19 rfl (Enc.map_enc _ (r_70 : List Int))) (Enc.map_enc _ (r_70 : List Int))) (Enc.map_enc _ (r_70 : List Int))), (hg_55 20 (.int .i64 (r_70.length : Int)) (.int .i64 (r_70.length : Int)) (show s_54 20 = (.int .i64 (r_70.length : Int)) from keep_app ha_54 (keep_clear (s := s) (pk := [43, 44]) h20 rfl rfl) rfl) rfl), (hg_55 21 (.int .i64 t21_80) (.int .i64 t21_80) (show s_54 21 = (.int .i64 t21_80) from keep_app ha_54 (keep_clear (s := s) (pk := [43, 44]) h21 rfl rfl) rfl) rfl)⟩ ?_
        rintro s ⟨h1, h2, h3, h6, h7, h8, h10, h19, h20, h21⟩
        refine .nsq ?_
        refine .seq ?_
        refine run_reg ?_
        refine e_end ?_
        refine g_v1 (t := 8) (u := (.int .i64 set_36)) (.int .i64 set_36) h8 rfl rfl ?_
        refine g_v1 (t := 10) (u := (.int .i64 e_90)) (.int .i64 e_90) h10 rfl rfl ?_
        obtain ⟨q_98, E_q_98, h⟩ := bind_some h
        refine g_v (.int .i64 q_98) (ev_shl rfl rfl E_q_98) ?_
        refine g_v2 (t1 := 45) (t2 := 47) (u1 := (.int .i64 set_36)) (u2 := (.int .i64 q_98)) (.int .i64 (ior .i64 set_36 q_98)) rfl rfl rfl rfl ?_
        refine g_v1 (t := 48) (u := (.int .i64 (ior .i64 set_36 q_98))) (.int .i64 (ior .i64 set_36 q_98)) rfl rfl rfl ?_
        refine g_end ?_
        refine e_end ?_
        refine renew [(1, (Enc.enc (best_2 : List Int))), (2, (.fn 88 [(.agg [(Enc.enc (cost_3.fs.1.a : List Int))])] [])), (3, (.ref (.bx 3) 0 [] (.agg [(Enc.enc (w_1.a : List Int))]))), (6, (.sl .nl (Enc.shp Int) 0 [])), (7, (encO (.at 7 []) (.of (ap_97 : List Int)))), (8, (.int .i64 (ior .i64 set_36 q_98))), (19, (Enc.enc (r_70 : List Int))), (20, (.int .i64 (r_70.length : Int))), (21, (.int .i64 t21_80))] ⟨h1, h2, h3, h6, h7, rfl, h19, h20, h21⟩ ?_
        rintro s ⟨h1, h2, h3, h6, h7, h8, h19, h20, h21⟩
        refine .nsq ?_
        refine .exit ?_
        refine .ebn (by decide) ?_
        refine .esq ?_
        refine .elp ?_
        refine .ebk ?_
        refine .nbk ?_
        refine .nlp ?_
        exact Hc1 (.of ap_97) (ior .i64 set_36 q_98) _ ⟨h1, h2, h3, h6, h7, h8⟩ h
      · refine .skip ?_
        refine .nbk ?_
        refine .nsq ?_
        refine run_reg ?_
        refine e_end ?_
        refine g_v1 (t := 21) (u := (.int .i64 t21_80)) (.int .i64 (w64 (t21_80 + 1))) h21 rfl rfl ?_
        refine g_v1 (t := 49) (u := (.int .i64 (w64 (t21_80 + 1)))) (.int .i64 (w64 (t21_80 + 1))) rfl rfl rfl ?_
        refine g_end ?_
        refine e_end ?_
        refine renew [(1, (Enc.enc (best_2 : List Int))), (2, (.fn 88 [(.agg [(Enc.enc (cost_3.fs.1.a : List Int))])] [])), (3, (.ref (.bx 3) 0 [] (.agg [(Enc.enc (w_1.a : List Int))]))), (6, (.sl .nl (Enc.shp Int) 0 [])), (7, (encO (.at 7 []) (order_35 : NL Int))), (8, (.int .i64 set_36)), (19, (Enc.enc (r_70 : List Int))), (20, (.int .i64 (r_70.length : Int))), (21, (.int .i64 (w64 (t21_80 + 1))))] ⟨h1, h2, h3, h6, h7, h8, h19, h20, rfl⟩ ?_
        rintro s ⟨h1, h2, h3, h6, h7, h8, h19, h20, h21⟩
        refine .nlp ?_
        exact ih (w64 (t21_80 + 1)) _ ⟨h1, h2, h3, h6, h7, h8, h19, h20, h21⟩ h
    · refine .exit ?_
      refine .esq ?_
      refine .elp ?_
      refine .ebk ?_
      refine .nbk ?_
      refine .nlp ?_
      exact Hc1 order_35 set_36 _ ⟨h1, h2, h3, h6, h7, h8⟩ h
def i_net_firstOrder_of_i_net_cut_l2 (F : Nat) (best_2 : (List Int)) (cost_3 : (Cl 88 ((S1 (List Int)) × Unit) Unit)) (w_1 : (S1 (List Int)))  : Nat → (NL Int) → Int → Option (List Int)
  | 0, _, _ => none
  | k + 1, order_35, set_36 =>
    (i_net_all F w_1).bind fun r_68 =>
    bif (set_36 != r_68) then
      (i_net_all F w_1).bind fun r_69 =>
      (i_setOf F (iandNot .i64 r_69 set_36)).bind fun r_70 =>
      i_net_firstOrder_of_i_net_cut_l1 F best_2 cost_3 w_1 order_35 set_36 r_70 (i_net_firstOrder_of_i_net_cut_l2 F best_2 cost_3 w_1 k) F 0
    else
      some order_35.list
theorem t_f89s1_l2 (H : H89s1 D σ F) (best_2 : (List Int)) (cost_3 : (Cl 88 ((S1 (List Int)) × Unit) Unit)) (w_1 : (S1 (List Int)))  : ∀ (k : Nat) (order_35 : (NL Int)) (set_36 : Int) (s : Nat → V), Facts [(1, (Enc.enc (best_2 : List Int))), (2, (.fn 88 [(.agg [(Enc.enc (cost_3.fs.1.a : List Int))])] [])), (3, (.ref (.bx 3) 0 [] (.agg [(Enc.enc (w_1.a : List Int))]))), (6, (.sl .nl (Enc.shp Int) 0 [])), (7, (encO (.at 7 []) (order_35 : NL Int))), (8, (.int .i64 set_36))] s → i_net_firstOrder_of_i_net_cut_l2 F best_2 cost_3 w_1 k order_35 set_36 = some r → Run D σ (R89s1 r) (.run A89s1_1 [.lp A89s1_1, .bk 0, .sq A89s1_12]) s := by
  intro k
  induction k with
  | zero => intro order_35 set_36 s _ h; exact nomatch (h : (none : Option _) = some r)
  | succ k ih =>
    intro order_35 set_36 s hs h
    rw [i_net_firstOrder_of_i_net_cut_l2] at h
    obtain ⟨h1, h2, h3, h6, h7, h8⟩ := hs
    refine .seq ?_
    refine .seq ?_
    refine run_reg ?_
    refine e_end ?_
    refine g_v1 (t := 8) (u := (.int .i64 set_36)) (.int .i64 set_36) h8 rfl rfl ?_
    refine g_v1 (t := 3) (u := (.ref (.bx 3) 0 [] (.agg [(Enc.enc (w_1.a : List Int))]))) (.agg [(Enc.enc (w_1.a : List Int))]) h3 rfl rfl ?_
    obtain ⟨r_68, E_r_68, h⟩ := bind_some h
    refine g_call (m := 0) (al := false) (r := (Enc.enc (r_68 : Int))) [Enc.enc (w_1 : (S1 (List Int)))] (ta_cons (v := (.agg [(Enc.enc (w_1.a : List Int))])) rfl rfl (Enc.erase_enc (w_1 : (S1 (List Int)))) ta_nil) (H.c59 _ _ E_r_68) H.g59 rfl rfl rfl rfl ?_
    refine g_v2 (t1 := 11) (t2 := 13) (u1 := (.int .i64 set_36)) (u2 := (.int .i64 r_68)) (.bool (set_36 != r_68)) rfl rfl rfl rfl ?_
    refine g_end ?_
    refine e_end ?_
    refine renew [(1, (Enc.enc (best_2 : List Int))), (2, (.fn 88 [(.agg [(Enc.enc (cost_3.fs.1.a : List Int))])] [])), (3, (.ref (.bx 3) 0 [] (.agg [(Enc.enc (w_1.a : List Int))]))), (6, (.sl .nl (Enc.shp Int) 0 [])), (7, (encO (.at 7 []) (order_35 : NL Int))), (8, (.int .i64 set_36)), (14, (.bool (set_36 != r_68)))] ⟨h1, h2, h3, h6, h7, h8, rfl⟩ ?_
    rintro s ⟨h1, h2, h3, h6, h7, h8, h14⟩
    refine .nsq ?_
    refine run_cond (t := (set_36 != r_68)) h14 h (fun h => ?_) (fun h => ?_)
    · refine .skip ?_
      refine .nsq ?_
      refine .block ?_
      refine .seq ?_
      refine run_reg ?_
      refine e_end ?_
      refine g_v1 (t := 3) (u := (.ref (.bx 3) 0 [] (.agg [(Enc.enc (w_1.a : List Int))]))) (.agg [(Enc.enc (w_1.a : List Int))]) h3 rfl rfl ?_
      obtain ⟨r_69, E_r_69, h⟩ := bind_some h
      refine g_call (m := 0) (al := false) (r := (Enc.enc (r_69 : Int))) [Enc.enc (w_1 : (S1 (List Int)))] (ta_cons (v := (.agg [(Enc.enc (w_1.a : List Int))])) rfl rfl (Enc.erase_enc (w_1 : (S1 (List Int)))) ta_nil) (H.c59 _ _ E_r_69) H.g59 rfl rfl rfl rfl ?_
      refine g_v1 (t := 8) (u := (.int .i64 set_36)) (.int .i64 set_36) h8 rfl rfl ?_
      refine g_v2 (t1 := 16) (t2 := 17) (u1 := (.int .i64 r_69)) (u2 := (.int .i64 set_36)) (.int .i64 (iandNot .i64 r_69 set_36)) rfl rfl rfl rfl ?_
      obtain ⟨r_70, E_r_70, h⟩ := bind_some h
      refine g_call (m := 0) (al := false) (r := (Enc.enc (r_70 : (List Int)))) [Enc.enc (iandNot .i64 r_69 set_36 : Int)] (ta_cons (v := (.int .i64 (iandNot .i64 r_69 set_36))) rfl rfl rfl ta_nil) (H.c60 _ _ E_r_70) H.g60 rfl rfl rfl rfl ?_
      refine g_v (.int .i64 (r_70.length : Int)) (ev_len (xs := r_70) rfl) ?_
      refine g_v0 (.int .i64 0) rfl rfl ?_
      refine g_end ?_
      refine e_end ?_
      refine renew [(1, (Enc.enc (best_2 : List Int))), (2, (.fn 88 [(.agg [(Enc.enc (cost_3.fs.1.a : List Int))])] [])), (3, (.ref (.bx 3) 0 [] (.agg [(Enc.enc (w_1.a : List Int))]))), (6, (.sl .nl (Enc.shp Int) 0 [])), (7, (encO (.at 7 []) (order_35 : NL Int))), (8, (.int .i64 set_36)), (19, (Enc.enc (r_70 : List Int))), (20, (.int .i64 (r_70.length : Int))), (21, (.int .i64 0))] ⟨h1, h2, h3, h6, h7, h8, rfl, rfl, rfl⟩ ?_
      rintro s ⟨h1, h2, h3, h6, h7, h8, h19, h20, h21⟩
      refine .nsq ?_
      refine .block ?_
      refine .loop ?_
      exact t_f89s1_l1 H best_2 cost_3 w_1 order_35 set_36 r_70 (i_net_firstOrder_of_i_net_cut_l2 F best_2 cost_3 w_1 k) ih F 0 _ ⟨h1, h2, h3, h6, h7, h8, h19, h20, h21⟩ h
    · refine .exit ?_
      refine .esq ?_
      refine .elp ?_
      refine .ebk ?_
      refine .nsq ?_
      refine .seq ?_
      refine run_reg ?_
      refine e_end ?_
      refine g_v (encO (.at 7 []) (order_35 : NL Int)) (ev_mov h7 ok_encO) ?_
      refine g_v (encO (.at 7 []) (order_35 : NL Int)) (ev_mov rfl ok_encO) ?_
      refine g_end ?_
      refine e_home (r := 7) (x := 6) (v := (encO (.at 7 []) (order_35 : NL Int))) (by exact rfl) ok_encO (fun s_56 hg_56 => ?_)
      refine e_end ?_
      refine renew [(6, (encO (.at 6 []) (order_35 : NL Int)))] (hg_56 6 (encO (.at 7 []) (order_35 : NL Int)) (encO (.at 6 []) (order_35 : NL Int)) rfl (map_encO (r := 7) (p := []) rfl rfl)) ?_
      rintro s h6
      refine .nsq ?_
      refine .ret ?_
      have hr := Option.some.inj h
      subst hr
      exact rrA (res_tmp h6) (fin_retF (fin_own (o := order_35)) (mine_own rfl))
def i_net_firstOrder_of_i_net_cut (F : Nat) (w_1 : (S1 (List Int))) (best_2 : (List Int)) (cost_3 : (Cl 88 ((S1 (List Int)) × Unit) Unit)) : Option (List Int) :=
  i_net_firstOrder_of_i_net_cut_l2 F best_2 cost_3 w_1 F .nil 0
theorem t89s1 (H : H89s1 D σ F) (w_1 : (S1 (List Int))) (best_2 : (List Int)) (cost_3 : (Cl 88 ((S1 (List Int)) × Unit) Unit)) (s : Nat → V) (hs : Facts [(0, (.agg [(Enc.enc (w_1.a : List Int))])), (1, (Enc.enc (best_2 : List Int))), (2, (.fn 88 [(.agg [(Enc.enc (cost_3.fs.1.a : List Int))])] []))] s) (h : i_net_firstOrder_of_i_net_cut F w_1 best_2 cost_3 = some r) : Run D σ (R89s1 r) (.run A89s1 []) s := by
  unfold i_net_firstOrder_of_i_net_cut at h
  obtain ⟨h0, h1, h2⟩ := hs
  refine .seq ?_
  refine run_reg ?_
  refine e_clr ?_
  refine e_end ?_
  refine g_box (.agg [(Enc.enc (w_1.a : List Int))]) (rd_of (keep_clear (s := s) (pk := [3]) h0 rfl (map_agg (maps_cons (Enc.map_enc _ (w_1.a : List Int)) maps_nil))) rfl) (gone_clear (s := s) (pk := [3]) (t := 3) rfl) rfl ?_
  refine g_v0 (.sl .nl (Enc.shp Int) 0 []) rfl rfl ?_
  refine g_end ?_
  refine e_end ?_
  refine renew [(1, (Enc.enc (best_2 : List Int))), (2, (.fn 88 [(.agg [(Enc.enc (cost_3.fs.1.a : List Int))])] [])), (3, (.ref (.bx 3) 0 [] (.agg [(Enc.enc (w_1.a : List Int))]))), (6, (.sl .nl (Enc.shp Int) 0 []))] ⟨(keep_clear (s := s) (pk := [3]) h1 rfl (Enc.map_enc _ (best_2 : List Int))), (keep_clear (s := s) (pk := [3]) h2 rfl (map_fn (maps_cons (map_agg (maps_cons (Enc.map_enc _ (cost_3.fs.1.a : List Int)) maps_nil)) maps_nil) maps_nil)), rfl, rfl⟩ ?_
  rintro s ⟨h1, h2, h3, h6⟩
  refine .nsq ?_
  refine .seq ?_
  refine run_reg ?_
  refine e_end ?_
  refine g_v0 (.sl .nl (Enc.shp Int) 0 []) rfl rfl ?_
  refine g_end ?_
  refine e_end ?_
  refine renew [(1, (Enc.enc (best_2 : List Int))), (2, (.fn 88 [(.agg [(Enc.enc (cost_3.fs.1.a : List Int))])] [])), (3, (.ref (.bx 3) 0 [] (.agg [(Enc.enc (w_1.a : List Int))]))), (6, (.sl .nl (Enc.shp Int) 0 [])), (7, (.sl .nl (Enc.shp Int) 0 []))] ⟨h1, h2, h3, h6, rfl⟩ ?_
  rintro s ⟨h1, h2, h3, h6, h7⟩
  refine .nsq ?_
  refine .seq ?_
  refine .seq ?_
  refine run_reg ?_
  refine e_end ?_
  refine g_v0 (.int .i64 0) rfl rfl ?_
  refine g_end ?_
  refine e_end ?_
  refine renew [(1, (Enc.enc (best_2 : List Int))), (2, (.fn 88 [(.agg [(Enc.enc (cost_3.fs.1.a : List Int))])] [])), (3, (.ref (.bx 3) 0 [] (.agg [(Enc.enc (w_1.a : List Int))]))), (6, (.sl .nl (Enc.shp Int) 0 [])), (7, (.sl .nl (Enc.shp Int) 0 [])), (8, (.int .i64 0))] ⟨h1, h2, h3, h6, h7, rfl⟩ ?_
  rintro s ⟨h1, h2, h3, h6, h7, h8⟩
  refine .nsq ?_
  refine .block ?_
  refine .loop ?_
  exact t_f89s1_l2 H best_2 cost_3 w_1 F .nil 0 _ ⟨h1, h2, h3, h6, h7, h8⟩ h
end
def e89s1 (F : Nat) : Ent := ⟨89, da (fun (x : ((S1 (List Int)) × (List Int) × (Cl 88 ((S1 (List Int)) × Unit) Unit) × Unit)) => i_net_firstOrder_of_i_net_cut F x.1 x.2.1 x.2.2.1) (fun (r : (List Int)) => (Enc.enc (r : (List Int)))), 0, false, selF [(2, 88)]⟩
theorem p89s1 {F : Nat} {x0 : (S1 (List Int))} {x1 : (List Int)} {x2 : (Cl 88 ((S1 (List Int)) × Unit) Unit)} {r : (List Int)} (h : i_net_firstOrder_of_i_net_cut F x0 x1 x2 = some r) : (e89s1 F).den [Enc.enc x0, Enc.enc x1, Arg.arg x2] = some (Enc.enc (r : (List Int))) := da_put (f := fun (x : ((S1 (List Int)) × (List Int) × (Cl 88 ((S1 (List Int)) × Unit) Unit) × Unit)) => i_net_firstOrder_of_i_net_cut F x.1 x.2.1 x.2.2.1) (t := fun (r : (List Int)) => (Enc.enc (r : (List Int)))) (x0, x1, x2, ()) h
theorem o89s1 {D : Den} {σ : Sig} {F : Nat} (hF : Fits2 Try.prog D σ) (H : H89s1 D σ F) : (e89s1 F).Ok Try.prog := by
  refine ok_of (f := 89) (show unk 89 = 89 from rfl) (fun args r h => ?_) ⟨Try.f89, Try.func89, rfl, rfl⟩
  obtain ⟨⟨x0, x1, x2, _⟩, y, rfl, hy, rfl⟩ := da_open h
  exact contract_run hF (by kernel_rfl) Try.func89 rfl c89s1 (show 3 ≤ Try.f89.ntmps by decide) (t89s1 H x0 x1 x2 _ ⟨rfl, rfl, rfl⟩ hy)
end Go.Zq
