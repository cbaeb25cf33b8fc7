/- Functions of the program as typed functions, and that the machine runs as they say (part 3). No further condition. -/
import Derived.Test.YtonidecbmdpfhaaK3
import Derived.Test.YtonidecbmdpfhaaProg
import Derived.Test.YtonidecbmdpfhaaChecked
import Derived.KernelRfl
import Derived.Test.YtonidecbmdpfhaaG2
set_option linter.unusedVariables false
set_option linter.unusedSimpArgs false
/- Functions of the program, as typed functions, and that the machine runs as they say. -/
namespace Go.Zq
open Go.Proofs
/- loop.example/g01109/laws.FnExactDegeneracyOf -/
def A5_1 : AC := (AC.cond (O.t 34) (AC.seq (AC.reg [] [(I.mk (some 2) none false (X.v (A.mov (O.k (V.bool false)))))] []) AC.ret) AC.skip)
def A5_3 : AC := (AC.cond (O.t 39) (AC.seq (AC.reg [] [(I.mk (some 2) none false (X.v (A.mov (O.k (V.bool false)))))] []) AC.ret) AC.skip)
def A5_4 : AC := (AC.seq (AC.reg [] [(I.mk (some 2) none false (X.v (A.mov (O.k (V.bool true)))))] []) AC.ret)
def A5_2 : AC := (AC.seq (AC.seq (AC.reg [] [(I.mk (some 35) none false (X.v (A.load (Sh.ag [Sh.s, Sh.p]) (O.t 6)))), (I.mk (some 36) none false (X.v (A.load (Sh.ag [Sh.s, Sh.p]) (O.t 1)))), (I.mk (some 37) none false (X.call (O.k (V.fn 17 [] [])) [(O.t 36)])), (I.mk (some 38) none false (X.call (O.k (V.fn 20 [] [])) [(O.t 35), (O.t 37)])), (I.mk (some 39) none false (X.v (A.un UnOp.not (O.t 38))))] []) A5_3) A5_4)
def A5_8 : AC := (AC.cond (O.t 13) (AC.seq (AC.reg [] [(I.mk (some 2) none false (X.v (A.mov (O.k (V.bool true)))))] []) AC.ret) AC.skip)
def A5_12 : AC := (AC.seq (AC.seq (AC.reg [] [(I.mk (some 27) none false (X.v (A.mov (O.t 7)))), (I.mk (some 28) none false (X.v (A.mov (O.t 4)))), (I.mk (some 29) none false (X.v (A.bin BinOp.neq (O.t 27) (O.t 28)))), (I.mk (some 30) none false (X.v (A.mov (O.t 29)))), (I.mk (some 31) (some (30, false)) false (X.v (A.mov (O.t 8)))), (I.mk (some 32) (some (30, false)) false (X.v (A.mov (O.t 5)))), (I.mk (some 33) (some (30, false)) false (X.v (A.beq true (O.t 31) (O.t 32)))), (I.mk (some 34) none false (X.v (A.pick (O.t 30) (O.k (V.bool true)) (O.t 33))))] []) A5_1) A5_2)
def A5_11 : AC := (AC.seq (AC.reg [] [(I.mk (some 23) none false (X.v (A.load (Sh.ag [Sh.s, Sh.p]) (O.t 6)))), (I.mk (some 24) none false (X.call (O.k (V.fn 27 [] [])) [(O.t 23)])), (I.mk (some 22) none false (X.v (A.mov (O.t 24)))), (I.mk (some 25) none false (X.v (A.extS (O.t 22) 0))), (I.mk (some 26) none false (X.v (A.extS (O.t 22) 1))), (I.mk (some 7) none false (X.v (A.mov (O.t 25)))), (I.mk (some 8) none false (X.v (A.mov (O.t 26))))] []) A5_12)
def A5_10 : AC := (AC.seq (AC.reg [.clr [6]] [(I.mk (some 20) none false (X.v (A.load (Sh.ag [Sh.s, Sh.p]) (O.t 1)))), (I.mk (some 21) none false (X.call (O.k (V.fn 17 [] [])) [(O.t 20)])), (I.mk (some 6) none false (X.alloc (V.agg [(V.int IntKind.i64 (Int.ofNat 0)), (V.sl Tok.nl (Sh.ag [Sh.s, Sh.s]) 0 [])]))), (I.mk none none false (X.store (Sh.ag [Sh.s, Sh.p]) (O.t 6) (O.t 21)))] []) A5_11)
def A5_9 : AC := (AC.seq (AC.reg [] [(I.mk (some 15) none false (X.v (A.load (Sh.ag [Sh.s, Sh.p]) (O.t 1)))), (I.mk (some 16) none false (X.call (O.k (V.fn 17 [] [])) [(O.t 15)])), (I.mk (some 17) none false (X.call (O.k (V.fn 26 [] [])) [(O.t 16)])), (I.mk (some 14) none false (X.v (A.mov (O.t 17)))), (I.mk (some 18) none false (X.v (A.extS (O.t 14) 0))), (I.mk (some 19) none false (X.v (A.extS (O.t 14) 1))), (I.mk (some 4) none false (X.v (A.mov (O.t 18)))), (I.mk (some 5) none false (X.v (A.mov (O.t 19))))] []) A5_10)
def A5_7 : AC := (AC.seq (AC.seq (AC.reg [] [(I.mk (some 12) none false (X.v (A.mov (O.t 3)))), (I.mk (some 13) none false (X.v (A.bin BinOp.lss (O.t 12) (O.k (V.int IntKind.i64 (Int.ofNat 0))))))] []) A5_8) A5_9)
def A5_6 : AC := (AC.seq (AC.reg [] [(I.mk (some 9) none false (X.v (A.load (Sh.ag [Sh.s, Sh.p]) (O.t 1)))), (I.mk (some 10) none false (X.v (A.mov (O.t 3)))), (I.mk (some 11) none false (X.call (O.k (V.fn 15 [] [])) [(O.t 9), (O.t 10)])), (I.mk (some 3) none false (X.v (A.mov (O.t 11))))] []) A5_7)
def A5_5 : AC := (AC.seq (AC.reg [] [(I.mk (some 3) none false (X.v (A.mov (O.k (V.int IntKind.i64 (Int.ofNat 1048576))))))] []) A5_6)
def A5 : AC := (AC.seq (AC.reg [.clr [1]] [(I.mk (some 1) none false (X.box (O.t 0))), (I.mk (some 2) none false (X.v (A.mov (O.k (V.bool false)))))] []) A5_5)
def an5 : List An := [{ id := 0, pre := [.clr [1]], ep := [], lin := [], sp := [] }, { id := 6, pre := [.clr [6]], ep := [], lin := [], sp := [] }]
theorem c5 : cC Try.prog Try.f5.ntmps an5 (Try.f5.body.getD .skip) = some A5 := by kernel_rfl
structure H5 (D : Den) (σ : Sig) (F : Nat) : Prop where
  c15 : ∀ (x0 : (Int × (List (Int × Int)))) (x1 : Int) r, w_szGraph F x0 x1 = some r → D 15 [Enc.enc x0, Enc.enc x1] = some (Enc.enc (r : Int))
  g15 : σ 15 = some (0, false)
  c17 : ∀ (x0 : (Int × (List (Int × Int)))) r, w_toGraph F x0 = some r → D 17 [Enc.enc x0] = some (Enc.enc (r : (Int × (List (Int × Int)))))
  g17 : σ 17 = some (0, true)
  c26 : ∀ (x0 : (Int × (List (Int × Int)))) r, s_DegeneracyOf F x0 = some r → D 26 [Enc.enc x0] = some (.tup [Enc.enc (r.1 : Int), Enc.enc (r.2 : Bool)])
  g26 : σ 26 = some (0, false)
  c27 : ∀ (x0 : (Int × (List (Int × Int)))) r, i_DegeneracyOf F x0 = some r → D 27 [Enc.enc x0] = some (.tup [Enc.enc (r.1 : Int), Enc.enc (r.2 : Bool)])
  g27 : σ 27 = some (0, false)
  c20 : ∀ (x0 : (Int × (List (Int × Int)))) (x1 : (Int × (List (Int × Int)))) r, w_eqGraph F x0 x1 = some r → D 20 [Enc.enc x0, Enc.enc x1] = some (Enc.enc (r : Bool))
  g20 : σ 20 = some (0, false)
abbrev R5 (r : Bool) : (Nat → V) → Prop := RR Try.prog [.tmp 2] 0 false (Enc.enc (r : Bool))
section
variable {D : Den} {σ : Sig} {F : Nat} {r : Bool}
def w_FnExactDegeneracyOf_j1 (F : Nat) (aG_1 : (Int × (List (Int × Int)))) (r_5 : (Int × (List (Int × Int))))  (t34_7 : Bool) : Option Bool :=
  bif t34_7 then
    some false
  else
    (w_toGraph F aG_1).bind fun r_8 =>
    (w_eqGraph F r_5 r_8).bind fun r_9 =>
    bif (!r_9) then
      some false
    else
      some true
theorem t_f5_j1 (H : H5 D σ F) (aG_1 : (Int × (List (Int × Int)))) (r_5 : (Int × (List (Int × Int))))  (t34_7 : Bool) (s : Nat → V) (hs : Facts [(1, (.ref (.bx 1) 0 [] (.agg [(.int .i64 aG_1.1), (Enc.enc (aG_1.2 : List (Int × Int)))]))), (2, (.bool false)), (6, (.ref (.bx 6) 0 [] (.agg [(.int .i64 r_5.1), (Enc.enc (r_5.2 : List (Int × Int)))]))), (34, (.bool t34_7))] s) (h : w_FnExactDegeneracyOf_j1 F aG_1 r_5  t34_7 = some r) : Run D σ (R5 r) (.nrm [.sq A5_1, .sq A5_2]) s := by
  unfold w_FnExactDegeneracyOf_j1 at h
  obtain ⟨h1, h2, h6, h34⟩ := hs
  refine .nsq ?_
  refine run_cond (t := t34_7) h34 h (fun h => ?_) (fun h => ?_)
  · refine .seq ?_
    refine run_reg ?_
    refine e_end ?_
    refine g_v0 (.bool false) rfl rfl ?_
    refine g_end ?_
    refine e_end ?_
    refine renew [(1, (.ref (.bx 1) 0 [] (.agg [(.int .i64 aG_1.1), (Enc.enc (aG_1.2 : List (Int × Int)))]))), (2, (.bool false)), (6, (.ref (.bx 6) 0 [] (.agg [(.int .i64 r_5.1), (Enc.enc (r_5.2 : List (Int × Int)))])))] ⟨h1, rfl, h6⟩ ?_
    rintro s ⟨h1, h2, h6⟩
    refine .nsq ?_
    refine .ret ?_
    have hr := Option.some.inj h
    subst hr
    exact rrA (res_tmp h2) rfl
  · refine .skip ?_
    refine .nsq ?_
    refine .seq ?_
    refine .seq ?_
    refine run_reg ?_
    refine e_end ?_
    refine g_v1 (t := 6) (u := (.ref (.bx 6) 0 [] (.agg [(.int .i64 r_5.1), (Enc.enc (r_5.2 : List (Int × Int)))]))) (.agg [(.int .i64 r_5.1), (Enc.enc (r_5.2 : List (Int × Int)))]) h6 rfl rfl ?_
    refine g_v1 (t := 1) (u := (.ref (.bx 1) 0 [] (.agg [(.int .i64 aG_1.1), (Enc.enc (aG_1.2 : List (Int × Int)))]))) (.agg [(.int .i64 aG_1.1), (Enc.enc (aG_1.2 : List (Int × Int)))]) h1 rfl rfl ?_
    obtain ⟨r_8, E_r_8, h⟩ := bind_some h
    refine g_call (m := 0) (al := true) (r := (Enc.enc (r_8 : (Int × (List (Int × Int)))))) [Enc.enc (aG_1 : (Int × (List (Int × Int))))] (ta_cons (v := (.agg [(.int .i64 aG_1.1), (Enc.enc (aG_1.2 : List (Int × Int)))])) rfl rfl (Enc.erase_enc (aG_1 : (Int × (List (Int × Int))))) ta_nil) (H.c17 _ _ E_r_8) H.g17 (hal_of (ht_cons (v := (.agg [(.int .i64 aG_1.1), (Enc.enc (aG_1.2 : List (Int × Int)))])) rfl rfl rfl ht_nil)) rfl rfl rfl ?_
    obtain ⟨r_9, E_r_9, h⟩ := bind_some h
    refine g_call (m := 0) (al := false) (r := (Enc.enc (r_9 : Bool))) [Enc.enc (r_5 : (Int × (List (Int × Int)))), Enc.enc (r_8 : (Int × (List (Int × Int))))] (ta_cons (v := (.agg [(.int .i64 r_5.1), (Enc.enc (r_5.2 : List (Int × Int)))])) rfl rfl (Enc.erase_enc (r_5 : (Int × (List (Int × Int))))) (ta_cons (v := (.agg [(.int .i64 r_8.1), (Enc.enc (r_8.2 : List (Int × Int)))])) rfl rfl (Enc.erase_enc (r_8 : (Int × (List (Int × Int))))) ta_nil)) (H.c20 _ _ _ E_r_9) H.g20 rfl rfl rfl rfl ?_
    refine g_v1 (t := 38) (u := (.bool r_9)) (.bool (!r_9)) rfl rfl rfl ?_
    refine g_end ?_
    refine e_end ?_
    refine renew [(2, (.bool false)), (39, (.bool (!r_9)))] ⟨h2, rfl⟩ ?_
    rintro s ⟨h2, h39⟩
    refine .nsq ?_
    refine run_cond (t := (!r_9)) h39 h (fun h => ?_) (fun h => ?_)
    · refine .seq ?_
      refine run_reg ?_
      refine e_end ?_
      refine g_v0 (.bool false) rfl rfl ?_
      refine g_end ?_
      refine e_end ?_
      refine renew [(2, (.bool false))] rfl ?_
      rintro s h2
      refine .nsq ?_
      refine .ret ?_
      have hr := Option.some.inj h
      subst hr
      exact rrA (res_tmp h2) rfl
    · refine .skip ?_
      refine .nsq ?_
      refine .seq ?_
      refine run_reg ?_
      refine e_end ?_
      refine g_v0 (.bool true) rfl rfl ?_
      refine g_end ?_
      refine e_end ?_
      refine renew [(2, (.bool true))] rfl ?_
      rintro s h2
      refine .nsq ?_
      refine .ret ?_
      have hr := Option.some.inj h
      subst hr
      exact rrA (res_tmp h2) rfl
def w_FnExactDegeneracyOf (F : Nat) (aG_1 : (Int × (List (Int × Int)))) : Option Bool :=
  (w_szGraph F aG_1 1048576).bind fun r_2 =>
  bif decide (r_2 < 0) then
    some true
  else
    (w_toGraph F aG_1).bind fun r_3 =>
    (s_DegeneracyOf F r_3).bind fun r_4 =>
    (w_toGraph F aG_1).bind fun r_5 =>
    (i_DegeneracyOf F r_5).bind fun r_6 =>
    bif (r_6.1 != r_4.1) then
      w_FnExactDegeneracyOf_j1 F aG_1 r_5 true
    else
      w_FnExactDegeneracyOf_j1 F aG_1 r_5 (r_6.2 != r_4.2)
theorem t5 (H : H5 D σ F) (aG_1 : (Int × (List (Int × Int)))) (s : Nat → V) (hs : Facts [(0, (.agg [(.int .i64 aG_1.1), (Enc.enc (aG_1.2 : List (Int × Int)))]))] s) (h : w_FnExactDegeneracyOf F aG_1 = some r) : Run D σ (R5 r) (.run A5 []) s := by
  unfold w_FnExactDegeneracyOf at h
  have h0 := hs
  refine .seq ?_
  refine run_reg ?_
  refine e_clr ?_
  refine e_end ?_
  refine g_box (.agg [(.int .i64 aG_1.1), (Enc.enc (aG_1.2 : List (Int × Int)))]) (rd_of (keep_clear (s := s) (pk := [1]) h0 rfl (map_agg (maps_cons rfl (maps_cons (Enc.map_enc _ (aG_1.2 : List (Int × Int))) maps_nil)))) rfl) (gone_clear (s := s) (pk := [1]) (t := 1) rfl) rfl ?_
  refine g_v0 (.bool false) rfl rfl ?_
  refine g_end ?_
  refine e_end ?_
  refine renew [(1, (.ref (.bx 1) 0 [] (.agg [(.int .i64 aG_1.1), (Enc.enc (aG_1.2 : List (Int × Int)))]))), (2, (.bool false))] ⟨rfl, rfl⟩ ?_
  rintro s ⟨h1, h2⟩
  refine .nsq ?_
  refine .seq ?_
  refine run_reg ?_
  refine e_end ?_
  refine g_v0 (.int .i64 1048576) rfl rfl ?_
  refine g_end ?_
  refine e_end ?_
  refine renew [(1, (.ref (.bx 1) 0 [] (.agg [(.int .i64 aG_1.1), (Enc.enc (aG_1.2 : List (Int × Int)))]))), (2, (.bool false)), (3, (.int .i64 1048576))] ⟨h1, h2, rfl⟩ ?_
  rintro s ⟨h1, h2, h3⟩
  refine .nsq ?_
  refine .seq ?_
  refine run_reg ?_
  refine e_end ?_
  refine g_v1 (t := 1) (u := (.ref (.bx 1) 0 [] (.agg [(.int .i64 aG_1.1), (Enc.enc (aG_1.2 : List (Int × Int)))]))) (.agg [(.int .i64 aG_1.1), (Enc.enc (aG_1.2 : List (Int × Int)))]) h1 rfl rfl ?_
  refine g_v1 (t := 3) (u := (.int .i64 1048576)) (.int .i64 1048576) h3 rfl rfl ?_
  obtain ⟨r_2, E_r_2, h⟩ := bind_some h
  refine g_call (m := 0) (al := false) (r := (Enc.enc (r_2 : Int))) [Enc.enc (aG_1 : (Int × (List (Int × Int)))), Enc.enc (1048576 : Int)] (ta_cons (v := (.agg [(.int .i64 aG_1.1), (Enc.enc (aG_1.2 : List (Int × Int)))])) rfl rfl (Enc.erase_enc (aG_1 : (Int × (List (Int × Int))))) (ta_cons (v := (.int .i64 1048576)) rfl rfl rfl ta_nil)) (H.c15 _ _ _ E_r_2) H.g15 rfl rfl rfl rfl ?_
  refine g_v1 (t := 11) (u := (.int .i64 r_2)) (.int .i64 r_2) rfl rfl rfl ?_
  refine g_end ?_
  refine e_end ?_
  refine renew [(1, (.ref (.bx 1) 0 [] (.agg [(.int .i64 aG_1.1), (Enc.enc (aG_1.2 : List (Int × Int)))]))), (2, (.bool false)), (3, (.int .i64 r_2))] ⟨h1, h2, rfl⟩ ?_
  rintro s ⟨h1, h2, h3⟩
  refine .nsq ?_
  refine .seq ?_
  refine .seq ?_
  refine run_reg ?_
  refine e_end ?_
  refine g_v1 (t := 3) (u := (.int .i64 r_2)) (.int .i64 r_2) h3 rfl rfl ?_
  refine g_v1 (t := 12) (u := (.int .i64 r_2)) (.bool (decide (r_2 < 0))) rfl rfl rfl ?_
  refine g_end ?_
  refine e_end ?_
  refine renew [(1, (.ref (.bx 1) 0 [] (.agg [(.int .i64 aG_1.1), (Enc.enc (aG_1.2 : List (Int × Int)))]))), (2, (.bool false)), (13, (.bool (decide (r_2 < 0))))] ⟨h1, h2, rfl⟩ ?_
  rintro s ⟨h1, h2, h13⟩
  refine .nsq ?_
  refine run_cond (t := decide (r_2 < 0)) h13 h (fun h => ?_) (fun h => ?_)
  · refine .seq ?_
    refine run_reg ?_
    refine e_end ?_
    refine g_v0 (.bool true) rfl rfl ?_
    refine g_end ?_
    refine e_end ?_
    refine renew [(1, (.ref (.bx 1) 0 [] (.agg [(.int .i64 aG_1.1), (Enc.enc (aG_1.2 : List (Int × Int)))]))), (2, (.bool true))] ⟨h1, rfl⟩ ?_
    rintro s ⟨h1, h2⟩
    refine .nsq ?_
    refine .ret ?_
    have hr := Option.some.inj h
    subst hr
    exact rrA (res_tmp h2) rfl
  · refine .skip ?_
    refine .nsq ?_
    refine .seq ?_
    refine run_reg ?_
    refine e_end ?_
    refine g_v1 (t := 1) (u := (.ref (.bx 1) 0 [] (.agg [(.int .i64 aG_1.1), (Enc.enc (aG_1.2 : List (Int × Int)))]))) (.agg [(.int .i64 aG_1.1), (Enc.enc (aG_1.2 : List (Int × Int)))]) h1 rfl rfl ?_
    obtain ⟨r_3, E_r_3, h⟩ := bind_some h
    refine g_call (m := 0) (al := true) (r := (Enc.enc (r_3 : (Int × (List (Int × Int)))))) [Enc.enc (aG_1 : (Int × (List (Int × Int))))] (ta_cons (v := (.agg [(.int .i64 aG_1.1), (Enc.enc (aG_1.2 : List (Int × Int)))])) rfl rfl (Enc.erase_enc (aG_1 : (Int × (List (Int × Int))))) ta_nil) (H.c17 _ _ E_r_3) H.g17 (hal_of (ht_cons (v := (.agg [(.int .i64 aG_1.1), (Enc.enc (aG_1.2 : List (Int × Int)))])) rfl rfl rfl ht_nil)) rfl rfl rfl ?_
    obtain ⟨r_4, E_r_4, h⟩ := bind_some h
    refine g_call (m := 0) (al := false) (r := (.tup [Enc.enc (r_4.1 : Int), Enc.enc (r_4.2 : Bool)])) [Enc.enc (r_3 : (Int × (List (Int × Int))))] (ta_cons (v := (.agg [(.int .i64 r_3.1), (Enc.enc (r_3.2 : List (Int × Int)))])) rfl rfl (Enc.erase_enc (r_3 : (Int × (List (Int × Int))))) ta_nil) (H.c26 _ _ E_r_4) H.g26 rfl rfl rfl rfl ?_
    refine g_v1 (t := 17) (u := (.tup [(.int .i64 r_4.1), (.bool r_4.2)])) (.tup [(.int .i64 r_4.1), (.bool r_4.2)]) rfl rfl rfl ?_
    refine g_v1 (t := 14) (u := (.tup [(.int .i64 r_4.1), (.bool r_4.2)])) (.int .i64 r_4.1) rfl rfl rfl ?_
    refine g_v1 (t := 14) (u := (.tup [(.int .i64 r_4.1), (.bool r_4.2)])) (.bool r_4.2) rfl rfl rfl ?_
    refine g_v1 (t := 18) (u := (.int .i64 r_4.1)) (.int .i64 r_4.1) rfl rfl rfl ?_
    refine g_v1 (t := 19) (u := (.bool r_4.2)) (.bool r_4.2) rfl rfl rfl ?_
    refine g_end ?_
    refine e_end ?_
    refine renew [(1, (.ref (.bx 1) 0 [] (.agg [(.int .i64 aG_1.1), (Enc.enc (aG_1.2 : List (Int × Int)))]))), (2, (.bool false)), (4, (.int .i64 r_4.1)), (5, (.bool r_4.2))] ⟨h1, h2, rfl, rfl⟩ ?_
    rintro s ⟨h1, h2, h4, h5⟩
    refine .nsq ?_
    refine .seq ?_
    refine run_reg ?_
    refine e_clr ?_
    refine e_end ?_
    refine g_v1 (t := 1) (u := (.ref (.bx 1) 0 [] (.agg [(.int .i64 aG_1.1), (Enc.enc (aG_1.2 : List (Int × Int)))]))) (.agg [(.int .i64 aG_1.1), (Enc.enc (aG_1.2 : List (Int × Int)))]) (keep_clear (s := s) (pk := [6]) h1 rfl (map_bx rfl (map_agg (maps_cons rfl (maps_cons (Enc.map_enc _ (aG_1.2 : List (Int × Int))) maps_nil))))) rfl rfl ?_
    obtain ⟨r_5, E_r_5, h⟩ := bind_some h
    refine g_call (m := 0) (al := true) (r := (Enc.enc (r_5 : (Int × (List (Int × Int)))))) [Enc.enc (aG_1 : (Int × (List (Int × Int))))] (ta_cons (v := (.agg [(.int .i64 aG_1.1), (Enc.enc (aG_1.2 : List (Int × Int)))])) rfl rfl (Enc.erase_enc (aG_1 : (Int × (List (Int × Int))))) ta_nil) (H.c17 _ _ E_r_5) H.g17 (hal_of (ht_cons (v := (.agg [(.int .i64 aG_1.1), (Enc.enc (aG_1.2 : List (Int × Int)))])) rfl rfl rfl ht_nil)) rfl rfl rfl ?_
    refine g_alloc (gone_clear (s := s) (pk := [6]) (t := 6) rfl) ?_
    refine g_store (.agg [(.int .i64 r_5.1), (Enc.enc (r_5.2 : List (Int × Int)))]) (rd_of rfl rfl) (rd_of rfl rfl) (by refine ⟨by decide, by decide, rfl, rfl, rfl, ?_⟩; first | rfl | simp [V.toks, V.tokss, Enc.toks_enc]) ?_
    refine g_end ?_
    refine e_end ?_
    refine renew [(1, (.ref (.bx 1) 0 [] (.agg [(.int .i64 aG_1.1), (Enc.enc (aG_1.2 : List (Int × Int)))]))), (2, (.bool false)), (4, (.int .i64 r_4.1)), (5, (.bool r_4.2)), (6, (.ref (.bx 6) 0 [] (.agg [(.int .i64 r_5.1), (Enc.enc (r_5.2 : List (Int × Int)))])))] ⟨(keep_mut (keep_clear (s := s) (pk := [6]) h1 rfl (map_bx rfl (map_agg (maps_cons rfl (maps_cons (Enc.map_enc _ (aG_1.2 : List (Int × Int))) maps_nil))))) (mut_ref_ne rfl rfl (mut_agg (muts_cons rfl (muts_cons (Enc.mut_enc _ _ _ _ (aG_1.2 : List (Int × Int))) rfl))))), (keep_mut (keep_clear (s := s) (pk := [6]) h2 rfl rfl) rfl), (keep_mut (keep_clear (s := s) (pk := [6]) h4 rfl rfl) rfl), (keep_mut (keep_clear (s := s) (pk := [6]) h5 rfl rfl) rfl), (keep_mut rfl rfl)⟩ ?_
    rintro s ⟨h1, h2, h4, h5, h6⟩
    refine .nsq ?_
    refine .seq ?_
    refine run_reg ?_
    refine e_end ?_
    refine g_v1 (t := 6) (u := (.ref (.bx 6) 0 [] (.agg [(.int .i64 r_5.1), (Enc.enc (r_5.2 : List (Int × Int)))]))) (.agg [(.int .i64 r_5.1), (Enc.enc (r_5.2 : List (Int × Int)))]) h6 rfl rfl ?_
    obtain ⟨r_6, E_r_6, h⟩ := bind_some h
    refine g_call (m := 0) (al := false) (r := (.tup [Enc.enc (r_6.1 : Int), Enc.enc (r_6.2 : Bool)])) [Enc.enc (r_5 : (Int × (List (Int × Int))))] (ta_cons (v := (.agg [(.int .i64 r_5.1), (Enc.enc (r_5.2 : List (Int × Int)))])) rfl rfl (Enc.erase_enc (r_5 : (Int × (List (Int × Int))))) ta_nil) (H.c27 _ _ E_r_6) H.g27 rfl rfl rfl rfl ?_
    refine g_v1 (t := 24) (u := (.tup [(.int .i64 r_6.1), (.bool r_6.2)])) (.tup [(.int .i64 r_6.1), (.bool r_6.2)]) rfl rfl rfl ?_
    refine g_v1 (t := 22) (u := (.tup [(.int .i64 r_6.1), (.bool r_6.2)])) (.int .i64 r_6.1) rfl rfl rfl ?_
    refine g_v1 (t := 22) (u := (.tup [(.int .i64 r_6.1), (.bool r_6.2)])) (.bool r_6.2) rfl rfl rfl ?_
    refine g_v1 (t := 25) (u := (.int .i64 r_6.1)) (.int .i64 r_6.1) rfl rfl rfl ?_
    refine g_v1 (t := 26) (u := (.bool r_6.2)) (.bool r_6.2) rfl rfl rfl ?_
    refine g_end ?_
    refine e_end ?_
    refine renew [(1, (.ref (.bx 1) 0 [] (.agg [(.int .i64 aG_1.1), (Enc.enc (aG_1.2 : List (Int × Int)))]))), (2, (.bool false)), (4, (.int .i64 r_4.1)), (5, (.bool r_4.2)), (6, (.ref (.bx 6) 0 [] (.agg [(.int .i64 r_5.1), (Enc.enc (r_5.2 : List (Int × Int)))]))), (7, (.int .i64 r_6.1)), (8, (.bool r_6.2))] ⟨h1, h2, h4, h5, h6, rfl, rfl⟩ ?_
    rintro s ⟨h1, h2, h4, h5, h6, h7, h8⟩
    refine .nsq ?_
    refine .seq ?_
    refine .seq ?_
    refine run_reg ?_
    refine e_end ?_
    refine g_v1 (t := 7) (u := (.int .i64 r_6.1)) (.int .i64 r_6.1) h7 rfl rfl ?_
    refine g_v1 (t := 4) (u := (.int .i64 r_4.1)) (.int .i64 r_4.1) h4 rfl rfl ?_
    refine g_v2 (t1 := 27) (t2 := 28) (u1 := (.int .i64 r_6.1)) (u2 := (.int .i64 r_4.1)) (.bool (r_6.1 != r_4.1)) rfl rfl rfl rfl ?_
    refine g_v1 (t := 29) (u := (.bool (r_6.1 != r_4.1))) (.bool (r_6.1 != r_4.1)) rfl rfl rfl ?_
    refine split_on (c := (r_6.1 != r_4.1)) h (fun hg4 h => ?_) (fun hg4 h => ?_)
    · refine g_no (Eq.trans (b := .bool (r_6.1 != r_4.1)) rfl (congrArg V.bool hg4)) ?_
      refine g_no (Eq.trans (b := .bool (r_6.1 != r_4.1)) rfl (congrArg V.bool hg4)) ?_
      refine g_no (Eq.trans (b := .bool (r_6.1 != r_4.1)) rfl (congrArg V.bool hg4)) ?_
      refine g_v2 (t1 := 30) (t2 := 33) (u1 := (.bool true)) (u2 := (.tup [])) (.bool true) (Eq.trans (b := .bool (r_6.1 != r_4.1)) rfl (congrArg V.bool hg4)) rfl rfl rfl ?_
      refine g_end ?_
      refine e_end ?_
      refine renew [(1, (.ref (.bx 1) 0 [] (.agg [(.int .i64 aG_1.1), (Enc.enc (aG_1.2 : List (Int × Int)))]))), (2, (.bool false)), (6, (.ref (.bx 6) 0 [] (.agg [(.int .i64 r_5.1), (Enc.enc (r_5.2 : List (Int × Int)))]))), (34, (.bool true))] ⟨h1, h2, h6, rfl⟩ ?_
      rintro s ⟨h1, h2, h6, h34⟩
      exact t_f5_j1 H aG_1 r_5 true _ ⟨h1, h2, h6, h34⟩ h
    · refine g_yes (Eq.trans (b := .bool (r_6.1 != r_4.1)) rfl (congrArg V.bool hg4)) (g_v1 (t := 8) (u := (.bool r_6.2)) (.bool r_6.2) h8 rfl rfl ?_)
      refine g_yes (Eq.trans (b := .bool (r_6.1 != r_4.1)) rfl (congrArg V.bool hg4)) (g_v1 (t := 5) (u := (.bool r_4.2)) (.bool r_4.2) h5 rfl rfl ?_)
      refine g_yes (Eq.trans (b := .bool (r_6.1 != r_4.1)) rfl (congrArg V.bool hg4)) (g_v2 (t1 := 31) (t2 := 32) (u1 := (.bool r_6.2)) (u2 := (.bool r_4.2)) (.bool (r_6.2 != r_4.2)) rfl rfl rfl rfl ?_)
      refine g_v2 (t1 := 30) (t2 := 33) (u1 := (.bool false)) (u2 := (.bool (r_6.2 != r_4.2))) (.bool (r_6.2 != r_4.2)) (Eq.trans (b := .bool (r_6.1 != r_4.1)) rfl (congrArg V.bool hg4)) rfl rfl rfl ?_
      refine g_end ?_
      refine e_end ?_
      refine renew [(1, (.ref (.bx 1) 0 [] (.agg [(.int .i64 aG_1.1), (Enc.enc (aG_1.2 : List (Int × Int)))]))), (2, (.bool false)), (6, (.ref (.bx 6) 0 [] (.agg [(.int .i64 r_5.1), (Enc.enc (r_5.2 : List (Int × Int)))]))), (34, (.bool (r_6.2 != r_4.2)))] ⟨h1, h2, h6, rfl⟩ ?_
      rintro s ⟨h1, h2, h6, h34⟩
      exact t_f5_j1 H aG_1 r_5 (r_6.2 != r_4.2) _ ⟨h1, h2, h6, h34⟩ h
end
def e5 (F : Nat) : Ent := ⟨5, da (fun (x : ((Int × (List (Int × Int))) × Unit)) => w_FnExactDegeneracyOf F x.1) (fun (r : Bool) => (Enc.enc (r : Bool))), 0, false, selF []⟩
theorem p5 {F : Nat} {x0 : (Int × (List (Int × Int)))} {r : Bool} (h : w_FnExactDegeneracyOf F x0 = some r) : (e5 F).den [Enc.enc x0] = some (Enc.enc (r : Bool)) := da_put (f := fun (x : ((Int × (List (Int × Int))) × Unit)) => w_FnExactDegeneracyOf F x.1) (t := fun (r : Bool) => (Enc.enc (r : Bool))) (x0, ()) h
theorem o5 {D : Den} {σ : Sig} {F : Nat} (hF : Fits2 Try.prog D σ) (H : H5 D σ F) : (e5 F).Ok Try.prog := by
  refine ok_of (f := 5) (show unk 5 = 5 from rfl) (fun args r h => ?_) ⟨Try.f5, Try.func5, rfl, rfl⟩
  obtain ⟨⟨x0, _⟩, y, rfl, hy, rfl⟩ := da_open h
  exact contract_run hF (by kernel_rfl) Try.func5 rfl c5 (show 1 ≤ Try.f5.ntmps by decide) (t5 H x0 _ rfl hy)
end Go.Zq
