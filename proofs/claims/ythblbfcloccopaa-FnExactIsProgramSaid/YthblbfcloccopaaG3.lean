/- Functions of the program as typed functions, and that the machine runs as they say (part 3). No further condition. -/
import Derived.Test.YthblbfcloccopaaK2
import Derived.Test.YthblbfcloccopaaProg
import Derived.Test.YthblbfcloccopaaChecked
import Derived.KernelRfl
import Derived.Test.YthblbfcloccopaaG2
set_option linter.unusedVariables false
set_option linter.unusedSimpArgs false
/- Functions of the program, as typed functions, and that the machine runs as they say. -/
namespace Go.Zq
open Go.Proofs
/- (loop.example/g01109/impl.net).around -/
def A119_5 : AC := (AC.cond (O.t 21) (AC.reg [] [(I.mk (some 22) none false (X.v (A.mov (O.t 5)))), (I.mk (some 23) none false (X.v (A.mov (O.t 7)))), (I.mk (some 24) none false (X.v (A.bin BinOp.or (O.t 22) (O.t 23)))), (I.mk (some 5) none false (X.v (A.mov (O.t 24))))] []) AC.skip)
def A119_4 : AC := (AC.seq (AC.reg [] [(I.mk (some 17) none false (X.v (A.mov (O.t 1)))), (I.mk (some 18) none false (X.v (A.mov (O.t 6)))), (I.mk (some 19) none false (X.v (A.bin BinOp.shr (O.t 17) (O.t 18)))), (I.mk (some 20) none false (X.v (A.bin BinOp.and (O.t 19) (O.k (V.int IntKind.i64 (Int.ofNat 1)))))), (I.mk (some 21) none false (X.v (A.bin BinOp.eql (O.t 20) (O.k (V.int IntKind.i64 (Int.ofNat 1))))))] []) A119_5)
def A119_6 : AC := (AC.reg [] [(I.mk (some 25) none false (X.v (A.bin BinOp.add (O.t 12) (O.k (V.int IntKind.i64 (Int.ofNat 1)))))), (I.mk (some 12) none false (X.v (A.mov (O.t 25))))] [])
def A119_3 : AC := (AC.seq (AC.block 1 (AC.seq (AC.reg [] [(I.mk (some 14) none false (X.v (A.mov (O.t 12)))), (I.mk (some 15) none false (X.v (A.idx (O.t 10) (O.t 12) 1))), (I.mk (some 16) none false (X.v (A.load Sh.s (O.t 15)))), (I.mk (some 6) none false (X.v (A.mov (O.t 14)))), (I.mk (some 7) none false (X.v (A.mov (O.t 16))))] []) A119_4)) A119_6)
def A119_2 : AC := (AC.seq (AC.cond (O.t 13) AC.skip (AC.exit 0)) A119_3)
def A119_1 : AC := (AC.seq (AC.reg [] [(I.mk (some 13) none false (X.v (A.bin BinOp.lss (O.t 12) (O.t 11))))] []) A119_2)
def A119_7 : AC := (AC.seq (AC.reg [] [(I.mk (some 26) none false (X.v (A.mov (O.t 5)))), (I.mk (some 4) none false (X.v (A.mov (O.t 26))))] []) AC.ret)
def A119_10 : AC := (AC.block 0 (AC.loop A119_1))
def A119_9 : AC := (AC.seq (AC.seq (AC.reg [] [(I.mk (some 9) none false (X.v (A.fld (O.t 2) 0 0))), (I.mk (some 10) none false (X.v (A.load Sh.p (O.t 9)))), (I.mk (some 11) none false (X.v (A.len (O.t 10)))), (I.mk (some 12) none false (X.v (A.mov (O.k (V.int IntKind.i64 (Int.ofNat 0))))))] []) A119_10) A119_7)
def A119_8 : AC := (AC.seq (AC.reg [] [(I.mk (some 8) none false (X.v (A.mov (O.t 1)))), (I.mk (some 5) none false (X.v (A.mov (O.t 8))))] []) A119_9)
def A119 : AC := (AC.seq (AC.reg [.clr [2]] [(I.mk (some 2) none false (X.box (O.t 0))), (I.mk (some 4) none false (X.v (A.mov (O.k (V.int IntKind.i64 (Int.ofNat 0))))))] []) A119_8)
def an119 : List An := [{ id := 0, pre := [.clr [2]], ep := [], lin := [], sp := [] }]
theorem c119 : cC Try.prog Try.f119.ntmps an119 (Try.f119.body.getD .skip) = some A119 := by kernel_rfl
structure H119 (D : Den) (σ : Sig) (F : Nat) : Prop where
  mk ::
abbrev R119 (r : Int) : (Nat → V) → Prop := RR Try.prog [.tmp 4] 0 false (Enc.enc (r : Int))
section
variable {D : Den} {σ : Sig} {F : Nat} {r : Int}
def i_net_around_j1 (F : Nat) (set_2 : Int) (w_1 : (S1 (List Int))) (t12_7 : Int) (c1 : Int → Int → Option Int) (out_13 : Int) : Option Int :=
  c1 out_13 (w64 (t12_7 + 1))
theorem t_f119_j1 (H : H119 D σ F) (set_2 : Int) (w_1 : (S1 (List Int))) (t12_7 : Int) (c1 : Int → Int → Option Int) (Hc1 : ∀ (out_6 : Int) (t12_7 : Int) (s : Nat → V), Facts [(1, (.int .i64 set_2)), (4, (.int .i64 0)), (5, (.int .i64 out_6)), (10, (Enc.enc (w_1.a : List Int))), (11, (.int .i64 (w_1.a.length : Int))), (12, (.int .i64 t12_7))] s → c1 out_6 t12_7 = some r → Run D σ (R119 r) (.run A119_1 [.lp A119_1, .bk 0, .sq A119_7]) s) (out_13 : Int) (s : Nat → V) (hs : Facts [(1, (.int .i64 set_2)), (4, (.int .i64 0)), (5, (.int .i64 out_13)), (10, (Enc.enc (w_1.a : List Int))), (11, (.int .i64 (w_1.a.length : Int))), (12, (.int .i64 t12_7))] s) (h : i_net_around_j1 F set_2 w_1 t12_7 c1 out_13 = some r) : Run D σ (R119 r) (.nrm [.bk 1, .sq A119_6, .lp A119_1, .bk 0, .sq A119_7]) s := by
  unfold i_net_around_j1 at h
  obtain ⟨h1, h4, h5, h10, h11, h12⟩ := hs
  refine .nbk ?_
  refine .nsq ?_
  refine run_reg ?_
  refine e_end ?_
  refine g_v1 (t := 12) (u := (.int .i64 t12_7)) (.int .i64 (w64 (t12_7 + 1))) h12 rfl rfl ?_
  refine g_v1 (t := 25) (u := (.int .i64 (w64 (t12_7 + 1)))) (.int .i64 (w64 (t12_7 + 1))) rfl rfl rfl ?_
  refine g_end ?_
  refine e_end ?_
  refine renew [(1, (.int .i64 set_2)), (4, (.int .i64 0)), (5, (.int .i64 out_13)), (10, (Enc.enc (w_1.a : List Int))), (11, (.int .i64 (w_1.a.length : Int))), (12, (.int .i64 (w64 (t12_7 + 1))))] ⟨h1, h4, h5, h10, h11, rfl⟩ ?_
  rintro s ⟨h1, h4, h5, h10, h11, h12⟩
  refine .nlp ?_
  exact Hc1 out_13 (w64 (t12_7 + 1)) _ ⟨h1, h4, h5, h10, h11, h12⟩ h
def i_net_around_l1 (F : Nat) (set_2 : Int) (w_1 : (S1 (List Int)))  : Nat → Int → Int → Option Int
  | 0, _, _ => none
  | k + 1, out_6, t12_7 =>
    bif decide (t12_7 < (w_1.a.length : Int)) then
      (idx w_1.a t12_7).bind fun e_11 =>
      (shrI .i64 set_2 t12_7).bind fun q_12 =>
      bif ((iand .i64 q_12 1) == 1) then
        i_net_around_j1 F set_2 w_1 t12_7 (i_net_around_l1 F set_2 w_1 k) (ior .i64 out_6 e_11)
      else
        i_net_around_j1 F set_2 w_1 t12_7 (i_net_around_l1 F set_2 w_1 k) out_6
    else
      some out_6
theorem t_f119_l1 (H : H119 D σ F) (set_2 : Int) (w_1 : (S1 (List Int)))  : ∀ (k : Nat) (out_6 : Int) (t12_7 : Int) (s : Nat → V), Facts [(1, (.int .i64 set_2)), (4, (.int .i64 0)), (5, (.int .i64 out_6)), (10, (Enc.enc (w_1.a : List Int))), (11, (.int .i64 (w_1.a.length : Int))), (12, (.int .i64 t12_7))] s → i_net_around_l1 F set_2 w_1 k out_6 t12_7 = some r → Run D σ (R119 r) (.run A119_1 [.lp A119_1, .bk 0, .sq A119_7]) s := by
  intro k
  induction k with
  | zero => intro out_6 t12_7 s _ h; exact nomatch (h : (none : Option _) = some r)
  | succ k ih =>
    intro out_6 t12_7 s hs h
    rw [i_net_around_l1] at h
    obtain ⟨h1, h4, h5, h10, h11, h12⟩ := hs
    refine .seq ?_
    refine run_reg ?_
    refine e_end ?_
    refine g_v2 (t1 := 12) (t2 := 11) (u1 := (.int .i64 t12_7)) (u2 := (.int .i64 (w_1.a.length : Int))) (.bool (decide (t12_7 < (w_1.a.length : Int)))) h12 h11 rfl rfl ?_
    refine g_end ?_
    refine e_end ?_
    refine renew [(1, (.int .i64 set_2)), (4, (.int .i64 0)), (5, (.int .i64 out_6)), (10, (Enc.enc (w_1.a : List Int))), (11, (.int .i64 (w_1.a.length : Int))), (12, (.int .i64 t12_7)), (13, (.bool (decide (t12_7 < (w_1.a.length : Int)))))] ⟨h1, h4, h5, h10, h11, h12, rfl⟩ ?_
    rintro s ⟨h1, h4, h5, h10, h11, h12, h13⟩
    refine .nsq ?_
    refine .seq ?_
    refine run_cond (t := decide (t12_7 < (w_1.a.length : Int))) h13 h (fun h => ?_) (fun h => ?_)
    · refine .skip ?_
      refine .nsq ?_
      refine .seq ?_
      refine .block ?_
      refine .seq ?_
      refine run_reg ?_
      refine e_end ?_
      refine g_v1 (t := 12) (u := (.int .i64 t12_7)) (.int .i64 t12_7) h12 rfl rfl ?_
      obtain ⟨e_11, E_e_11, h⟩ := bind_some h
      refine g_v (.ref .sh 0 [] (.int .i64 e_11)) (ev_idx (t := .sh) (lo := 0) (xs := w_1.a) h10 h12 E_e_11 rfl rfl) ?_
      refine g_v1 (t := 15) (u := (.ref .sh 0 [] (.int .i64 e_11))) (.int .i64 e_11) rfl rfl rfl ?_
      refine g_v1 (t := 14) (u := (.int .i64 t12_7)) (.int .i64 t12_7) rfl rfl rfl ?_
      refine g_v1 (t := 16) (u := (.int .i64 e_11)) (.int .i64 e_11) rfl rfl rfl ?_
      refine g_end ?_
      refine e_end ?_
      refine renew [(1, (.int .i64 set_2)), (4, (.int .i64 0)), (5, (.int .i64 out_6)), (6, (.int .i64 t12_7)), (7, (.int .i64 e_11)), (10, (Enc.enc (w_1.a : List Int))), (11, (.int .i64 (w_1.a.length : Int))), (12, (.int .i64 t12_7))] ⟨h1, h4, h5, rfl, rfl, h10, h11, h12⟩ ?_
      rintro s ⟨h1, h4, h5, h6, h7, h10, h11, h12⟩
      refine .nsq ?_
      refine .seq ?_
      refine run_reg ?_
      refine e_end ?_
      refine g_v1 (t := 1) (u := (.int .i64 set_2)) (.int .i64 set_2) h1 rfl rfl ?_
      refine g_v1 (t := 6) (u := (.int .i64 t12_7)) (.int .i64 t12_7) h6 rfl rfl ?_
      obtain ⟨q_12, E_q_12, h⟩ := bind_some h
      refine g_v (.int .i64 q_12) (ev_shr rfl rfl E_q_12) ?_
      refine g_v1 (t := 19) (u := (.int .i64 q_12)) (.int .i64 (iand .i64 q_12 1)) rfl rfl rfl ?_
      refine g_v1 (t := 20) (u := (.int .i64 (iand .i64 q_12 1))) (.bool ((iand .i64 q_12 1) == 1)) rfl rfl rfl ?_
      refine g_end ?_
      refine e_end ?_
      refine renew [(1, (.int .i64 set_2)), (4, (.int .i64 0)), (5, (.int .i64 out_6)), (7, (.int .i64 e_11)), (10, (Enc.enc (w_1.a : List Int))), (11, (.int .i64 (w_1.a.length : Int))), (12, (.int .i64 t12_7)), (21, (.bool ((iand .i64 q_12 1) == 1)))] ⟨h1, h4, h5, h7, h10, h11, h12, rfl⟩ ?_
      rintro s ⟨h1, h4, h5, h7, h10, h11, h12, h21⟩
      refine .nsq ?_
      refine run_cond (t := ((iand .i64 q_12 1) == 1)) h21 h (fun h => ?_) (fun h => ?_)
      · refine run_reg ?_
        refine e_end ?_
        refine g_v1 (t := 5) (u := (.int .i64 out_6)) (.int .i64 out_6) h5 rfl rfl ?_
        refine g_v1 (t := 7) (u := (.int .i64 e_11)) (.int .i64 e_11) h7 rfl rfl ?_
        refine g_v2 (t1 := 22) (t2 := 23) (u1 := (.int .i64 out_6)) (u2 := (.int .i64 e_11)) (.int .i64 (ior .i64 out_6 e_11)) rfl rfl rfl rfl ?_
        refine g_v1 (t := 24) (u := (.int .i64 (ior .i64 out_6 e_11))) (.int .i64 (ior .i64 out_6 e_11)) rfl rfl rfl ?_
        refine g_end ?_
        refine e_end ?_
        refine renew [(1, (.int .i64 set_2)), (4, (.int .i64 0)), (5, (.int .i64 (ior .i64 out_6 e_11))), (10, (Enc.enc (w_1.a : List Int))), (11, (.int .i64 (w_1.a.length : Int))), (12, (.int .i64 t12_7))] ⟨h1, h4, rfl, h10, h11, h12⟩ ?_
        rintro s ⟨h1, h4, h5, h10, h11, h12⟩
        exact t_f119_j1 H set_2 w_1 t12_7 (i_net_around_l1 F set_2 w_1 k) ih (ior .i64 out_6 e_11) _ ⟨h1, h4, h5, h10, h11, h12⟩ h
      · refine .skip ?_
        exact t_f119_j1 H set_2 w_1 t12_7 (i_net_around_l1 F set_2 w_1 k) ih out_6 _ ⟨h1, h4, h5, h10, h11, h12⟩ h
    · refine .exit ?_
      refine .esq ?_
      refine .elp ?_
      refine .ebk ?_
      refine .nsq ?_
      refine .seq ?_
      refine run_reg ?_
      refine e_end ?_
      refine g_v1 (t := 5) (u := (.int .i64 out_6)) (.int .i64 out_6) h5 rfl rfl ?_
      refine g_v1 (t := 26) (u := (.int .i64 out_6)) (.int .i64 out_6) rfl rfl rfl ?_
      refine g_end ?_
      refine e_end ?_
      refine renew [(4, (.int .i64 out_6))] rfl ?_
      rintro s h4
      refine .nsq ?_
      refine .ret ?_
      have hr := Option.some.inj h
      subst hr
      exact rrA (res_tmp h4) rfl
def i_net_around (F : Nat) (w_1 : (S1 (List Int))) (set_2 : Int) : Option Int :=
  i_net_around_l1 F set_2 w_1 F set_2 0
theorem t119 (H : H119 D σ F) (w_1 : (S1 (List Int))) (set_2 : Int) (s : Nat → V) (hs : Facts [(0, (.agg [(Enc.enc (w_1.a : List Int))])), (1, (.int .i64 set_2))] s) (h : i_net_around F w_1 set_2 = some r) : Run D σ (R119 r) (.run A119 []) s := by
  unfold i_net_around at h
  obtain ⟨h0, h1⟩ := hs
  refine .seq ?_
  refine run_reg ?_
  refine e_clr ?_
  refine e_end ?_
  refine g_box (.agg [(Enc.enc (w_1.a : List Int))]) (rd_of (keep_clear (s := s) (pk := [2]) h0 rfl (map_agg (maps_cons (Enc.map_enc _ (w_1.a : List Int)) maps_nil))) rfl) (gone_clear (s := s) (pk := [2]) (t := 2) rfl) rfl ?_
  refine g_v0 (.int .i64 0) rfl rfl ?_
  refine g_end ?_
  refine e_end ?_
  refine renew [(1, (.int .i64 set_2)), (2, (.ref (.bx 2) 0 [] (.agg [(Enc.enc (w_1.a : List Int))]))), (4, (.int .i64 0))] ⟨(keep_clear (s := s) (pk := [2]) h1 rfl rfl), rfl, rfl⟩ ?_
  rintro s ⟨h1, h2, h4⟩
  refine .nsq ?_
  refine .seq ?_
  refine run_reg ?_
  refine e_end ?_
  refine g_v1 (t := 1) (u := (.int .i64 set_2)) (.int .i64 set_2) h1 rfl rfl ?_
  refine g_v1 (t := 8) (u := (.int .i64 set_2)) (.int .i64 set_2) rfl rfl rfl ?_
  refine g_end ?_
  refine e_end ?_
  refine renew [(1, (.int .i64 set_2)), (2, (.ref (.bx 2) 0 [] (.agg [(Enc.enc (w_1.a : List Int))]))), (4, (.int .i64 0)), (5, (.int .i64 set_2))] ⟨h1, h2, h4, rfl⟩ ?_
  rintro s ⟨h1, h2, h4, h5⟩
  refine .nsq ?_
  refine .seq ?_
  refine .seq ?_
  refine run_reg ?_
  refine e_end ?_
  refine g_v1 (t := 2) (u := (.ref (.bx 2) 0 [] (.agg [(Enc.enc (w_1.a : List Int))]))) (.ref (.bx 2) 0 [0] (Enc.enc (w_1.a : List Int))) h2 rfl rfl ?_
  refine g_v1 (t := 9) (u := (.ref (.bx 2) 0 [0] (Enc.enc (w_1.a : List Int)))) (Enc.enc (w_1.a : List Int)) rfl rfl rfl ?_
  refine g_v (.int .i64 (w_1.a.length : Int)) (ev_len (xs := w_1.a) rfl) ?_
  refine g_v0 (.int .i64 0) rfl rfl ?_
  refine g_end ?_
  refine e_end ?_
  refine renew [(1, (.int .i64 set_2)), (4, (.int .i64 0)), (5, (.int .i64 set_2)), (10, (Enc.enc (w_1.a : List Int))), (11, (.int .i64 (w_1.a.length : Int))), (12, (.int .i64 0))] ⟨h1, h4, h5, rfl, rfl, rfl⟩ ?_
  rintro s ⟨h1, h4, h5, h10, h11, h12⟩
  refine .nsq ?_
  refine .block ?_
  refine .loop ?_
  exact t_f119_l1 H set_2 w_1 F set_2 0 _ ⟨h1, h4, h5, h10, h11, h12⟩ h
end
def e119 (F : Nat) : Ent := ⟨119, dn2 (i_net_around F) (fun (r : Int) => (Enc.enc (r : Int))), 0, false⟩
theorem o119 {D : Den} {σ : Sig} {F : Nat} (hF : Fits2 Try.prog D σ) (H : H119 D σ F) : (e119 F).Ok Try.prog := by
  refine ⟨fun args r h => ?_, ⟨Try.f119, Try.func119, rfl, rfl⟩⟩
  obtain ⟨x0, x1, y, rfl, hy, rfl⟩ := dn2_open h
  exact contract_run hF (by kernel_rfl) Try.func119 rfl c119 (show 2 ≤ Try.f119.ntmps by decide) (t119 H x0 x1 _ ⟨rfl, rfl⟩ hy)
/- (loop.example/g01109/impl.net).after -/
def A128_3 : AC := (AC.cond (O.t 55) (AC.seq (AC.reg [] [(I.mk (some 56) none false (X.v (A.load (Sh.ag [Sh.s, Sh.s]) (O.t 4)))), (I.mk none none false (X.store (Sh.ag [Sh.s, Sh.s]) (O.t 6) (O.t 56))), (I.mk (some 7) none false (X.v (A.mov (O.k (V.bool true)))))] []) AC.ret) AC.skip)
def A128_4 : AC := (AC.reg [] [(I.mk (some 57) none false (X.v (A.mov (O.t 9)))), (I.mk (some 58) none false (X.v (A.fld (O.t 4) 1 1))), (I.mk none none false (X.store Sh.s (O.t 58) (O.t 57)))] [])
def A128_2 : AC := (AC.seq (AC.seq (AC.reg [] [(I.mk (some 52) none false (X.v (A.mov (O.t 9)))), (I.mk (some 53) none false (X.v (A.fld (O.t 4) 1 1))), (I.mk (some 54) none false (X.v (A.load Sh.s (O.t 53)))), (I.mk (some 55) none false (X.v (A.bin BinOp.eql (O.t 52) (O.t 54))))] []) A128_3) A128_4)
def A128_1 : AC := (AC.block 1 (AC.seq (AC.reg [] [(I.mk (some 45) none false (X.v (A.load (Sh.ag [Sh.p]) (O.t 3)))), (I.mk (some 46) none false (X.v (A.fld (O.t 4) 1 1))), (I.mk (some 47) none false (X.v (A.load Sh.s (O.t 46)))), (I.mk (some 48) none false (X.call (O.k (V.fn 119 [] [])) [(O.t 45), (O.t 47)])), (I.mk (some 49) none false (X.v (A.fld (O.t 4) 0 0))), (I.mk (some 50) none false (X.v (A.load Sh.s (O.t 49)))), (I.mk (some 51) none false (X.v (A.bin BinOp.andNot (O.t 48) (O.t 50)))), (I.mk (some 9) none false (X.v (A.mov (O.t 51))))] []) A128_2))
def A128_5 : AC := (AC.cond (O.t 31) (AC.seq (AC.reg [] [(I.mk (some 32) none false (X.v (A.load (Sh.ag [Sh.s, Sh.s]) (O.t 4)))), (I.mk none none false (X.store (Sh.ag [Sh.s, Sh.s]) (O.t 6) (O.t 32))), (I.mk (some 7) none false (X.v (A.mov (O.k (V.bool false)))))] []) AC.ret) AC.skip)
def A128_8 : AC := (AC.block 0 (AC.loop A128_1))
def A128_7 : AC := (AC.seq (AC.reg [] [(I.mk (some 39) none false (X.v (A.fld (O.t 4) 1 1))), (I.mk (some 40) none false (X.v (A.load Sh.s (O.t 39)))), (I.mk (some 41) none false (X.v (A.fld (O.t 4) 0 0))), (I.mk (some 42) none false (X.v (A.load Sh.s (O.t 41)))), (I.mk (some 43) none false (X.v (A.bin BinOp.andNot (O.t 40) (O.t 42)))), (I.mk (some 44) none false (X.v (A.fld (O.t 4) 1 1))), (I.mk none none false (X.store Sh.s (O.t 44) (O.t 43)))] []) A128_8)
def A128_6 : AC := (AC.seq (AC.reg [] [(I.mk (some 33) none false (X.v (A.fld (O.t 4) 0 0))), (I.mk (some 34) none false (X.v (A.load Sh.s (O.t 33)))), (I.mk (some 35) none false (X.v (A.mov (O.t 8)))), (I.mk (some 36) none false (X.v (A.bin BinOp.shl (O.k (V.int IntKind.i64 (Int.ofNat 1))) (O.t 35)))), (I.mk (some 37) none false (X.v (A.bin BinOp.xor (O.t 34) (O.t 36)))), (I.mk (some 38) none false (X.v (A.fld (O.t 4) 0 0))), (I.mk none none false (X.store Sh.s (O.t 38) (O.t 37)))] []) A128_7)
def A128_9 : AC := (AC.seq (AC.seq (AC.reg [] [(I.mk (some 15) none false (X.v (A.mov (O.t 8)))), (I.mk (some 16) none false (X.v (A.load (Sh.ag [Sh.p]) (O.t 3)))), (I.mk (some 17) none false (X.call (O.k (V.fn 139 [] [])) [(O.t 16)])), (I.mk (some 18) none false (X.v (A.bin BinOp.sub (O.t 17) (O.k (V.int IntKind.i64 (Int.ofNat 1)))))), (I.mk (some 19) none false (X.call (O.k (V.fn 66 [] [])) [(O.t 15), (O.k (V.int IntKind.i64 (Int.ofNat 0))), (O.t 18)])), (I.mk (some 20) none false (X.v (A.un UnOp.not (O.t 19)))), (I.mk (some 21) none false (X.v (A.mov (O.t 20)))), (I.mk (some 22) (some (21, false)) false (X.v (A.fld (O.t 4) 0 0))), (I.mk (some 23) (some (21, false)) false (X.v (A.load Sh.s (O.t 22)))), (I.mk (some 24) (some (21, false)) false (X.v (A.mov (O.t 8)))), (I.mk (some 25) (some (21, false)) false (X.v (A.bin BinOp.shr (O.t 23) (O.t 24)))), (I.mk (some 26) (some (21, false)) false (X.v (A.bin BinOp.and (O.t 25) (O.k (V.int IntKind.i64 (Int.ofNat 1)))))), (I.mk (some 27) (some (21, false)) false (X.v (A.bin BinOp.eql (O.t 26) (O.k (V.int IntKind.i64 (Int.ofNat 1)))))), (I.mk (some 28) (some (21, false)) false (X.v (A.mov (O.t 2)))), (I.mk (some 29) (some (21, false)) false (X.v (A.bin BinOp.lss (O.t 28) (O.k (V.int IntKind.i64 (Int.ofNat 0)))))), (I.mk (some 30) (some (21, false)) false (X.v (A.beq true (O.t 27) (O.t 29)))), (I.mk (some 31) none false (X.v (A.pick (O.t 21) (O.k (V.bool true)) (O.t 30))))] []) A128_5) A128_6)
def A128_12 : AC := (AC.cond (O.t 12) (AC.reg [] [(I.mk (some 13) none false (X.v (A.mov (O.t 2)))), (I.mk (some 14) none false (X.v (A.bin BinOp.sub (O.k (V.int IntKind.i64 (Int.negSucc 0))) (O.t 13)))), (I.mk (some 8) none false (X.v (A.mov (O.t 14))))] []) AC.skip)
def A128_11 : AC := (AC.seq (AC.seq (AC.reg [] [(I.mk (some 11) none false (X.v (A.mov (O.t 2)))), (I.mk (some 12) none false (X.v (A.bin BinOp.lss (O.t 11) (O.k (V.int IntKind.i64 (Int.ofNat 0))))))] []) A128_12) A128_9)
def A128_10 : AC := (AC.seq (AC.reg [] [(I.mk (some 10) none false (X.v (A.mov (O.t 2)))), (I.mk (some 8) none false (X.v (A.mov (O.t 10))))] []) A128_11)
def A128 : AC := (AC.seq (AC.reg [.clr [3, 4, 6]] [(I.mk (some 3) none false (X.box (O.t 0))), (I.mk (some 4) none false (X.box (O.t 1))), (I.mk (some 6) none false (X.alloc (V.agg [(V.int IntKind.i64 (Int.ofNat 0)), (V.int IntKind.i64 (Int.ofNat 0))]))), (I.mk (some 7) none false (X.v (A.mov (O.k (V.bool false)))))] []) A128_10)
def an128 : List An := [{ id := 0, pre := [.clr [3, 4, 6]], ep := [], lin := [], sp := [] }]
theorem c128 : cC Try.prog Try.f128.ntmps an128 (Try.f128.body.getD .skip) = some A128 := by kernel_rfl
structure H128 (D : Den) (σ : Sig) (F : Nat) : Prop where
  c139 : ∀ x0 r, i_net_size F x0 = some r → D 139 [Enc.enc x0] = some (Enc.enc (r : Int))
  g139 : σ 139 = some (0, false)
  c66 : ∀ x0 x1 x2 r, i_within F x0 x1 x2 = some r → D 66 [Enc.enc x0, Enc.enc x1, Enc.enc x2] = some (Enc.enc (r : Bool))
  g66 : σ 66 = some (0, false)
  c119 : ∀ x0 x1 r, i_net_around F x0 x1 = some r → D 119 [Enc.enc x0, Enc.enc x1] = some (Enc.enc (r : Int))
  g119 : σ 119 = some (0, false)
abbrev R128 (r : ((Int × Int) × Bool)) : (Nat → V) → Prop := RR Try.prog [.cell 6 84, .tmp 7] 0 true (.tup [Enc.enc (r.1 : (Int × Int)), Enc.enc (r.2 : Bool)])
section
variable {D : Den} {σ : Sig} {F : Nat} {r : ((Int × Int) × Bool)}
def i_net_after_l1 (F : Nat) (w_1 : (S1 (List Int))) (s_2 : (Int × Int)) (q_9 : Int)  : Nat → Int → Option ((Int × Int) × Bool)
  | 0, _ => none
  | k + 1, s_11 =>
    (i_net_around F w_1 s_11).bind fun r_13 =>
    bif ((iandNot .i64 r_13 (ixor .i64 s_2.1 q_9)) == s_11) then
      some ((ixor .i64 s_2.1 q_9, s_11), true)
    else
      (i_net_after_l1 F w_1 s_2 q_9 k) (iandNot .i64 r_13 (ixor .i64 s_2.1 q_9))
theorem t_f128_l1 (H : H128 D σ F) (w_1 : (S1 (List Int))) (s_2 : (Int × Int)) (q_9 : Int)  : ∀ (k : Nat) (s_11 : Int) (s : Nat → V), Facts [(3, (.ref (.bx 3) 0 [] (.agg [(Enc.enc (w_1.a : List Int))]))), (4, (.ref (.bx 4) 0 [] (.agg [(.int .i64 (ixor .i64 s_2.1 q_9)), (.int .i64 s_11)]))), (6, (.ref (.bx 6) 0 [] (.agg [(.int .i64 0), (.int .i64 0)]))), (7, (.bool false))] s → i_net_after_l1 F w_1 s_2 q_9 k s_11 = some r → Run D σ (R128 r) (.run A128_1 [.lp A128_1, .bk 0]) s := by
  intro k
  induction k with
  | zero => intro s_11 s _ h; exact nomatch (h : (none : Option _) = some r)
  | succ k ih =>
    intro s_11 s hs h
    rw [i_net_after_l1] at h
    obtain ⟨h3, h4, h6, h7⟩ := hs
    refine .block ?_
    refine .seq ?_
    refine run_reg ?_
    refine e_end ?_
    refine g_v1 (t := 3) (u := (.ref (.bx 3) 0 [] (.agg [(Enc.enc (w_1.a : List Int))]))) (.agg [(Enc.enc (w_1.a : List Int))]) h3 rfl rfl ?_
    refine g_v1 (t := 4) (u := (.ref (.bx 4) 0 [] (.agg [(.int .i64 (ixor .i64 s_2.1 q_9)), (.int .i64 s_11)]))) (.ref (.bx 4) 0 [1] (.int .i64 s_11)) h4 rfl rfl ?_
    refine g_v1 (t := 46) (u := (.ref (.bx 4) 0 [1] (.int .i64 s_11))) (.int .i64 s_11) rfl rfl rfl ?_
    obtain ⟨r_13, E_r_13, h⟩ := bind_some h
    refine g_call (m := 0) (al := false) (r := (Enc.enc (r_13 : Int))) [Enc.enc (w_1 : (S1 (List Int))), Enc.enc (s_11 : Int)] (ta_cons (v := (.agg [(Enc.enc (w_1.a : List Int))])) rfl rfl (Enc.erase_enc (w_1 : (S1 (List Int)))) (ta_cons (v := (.int .i64 s_11)) rfl rfl rfl ta_nil)) (H.c119 _ _ _ E_r_13) H.g119 rfl rfl rfl rfl ?_
    refine g_v1 (t := 4) (u := (.ref (.bx 4) 0 [] (.agg [(.int .i64 (ixor .i64 s_2.1 q_9)), (.int .i64 s_11)]))) (.ref (.bx 4) 0 [0] (.int .i64 (ixor .i64 s_2.1 q_9))) h4 rfl rfl ?_
    refine g_v1 (t := 49) (u := (.ref (.bx 4) 0 [0] (.int .i64 (ixor .i64 s_2.1 q_9)))) (.int .i64 (ixor .i64 s_2.1 q_9)) rfl rfl rfl ?_
    refine g_v2 (t1 := 48) (t2 := 50) (u1 := (.int .i64 r_13)) (u2 := (.int .i64 (ixor .i64 s_2.1 q_9))) (.int .i64 (iandNot .i64 r_13 (ixor .i64 s_2.1 q_9))) rfl rfl rfl rfl ?_
    refine g_v1 (t := 51) (u := (.int .i64 (iandNot .i64 r_13 (ixor .i64 s_2.1 q_9)))) (.int .i64 (iandNot .i64 r_13 (ixor .i64 s_2.1 q_9))) rfl rfl rfl ?_
    refine g_end ?_
    refine e_end ?_
    refine renew [(3, (.ref (.bx 3) 0 [] (.agg [(Enc.enc (w_1.a : List Int))]))), (4, (.ref (.bx 4) 0 [] (.agg [(.int .i64 (ixor .i64 s_2.1 q_9)), (.int .i64 s_11)]))), (6, (.ref (.bx 6) 0 [] (.agg [(.int .i64 0), (.int .i64 0)]))), (7, (.bool false)), (9, (.int .i64 (iandNot .i64 r_13 (ixor .i64 s_2.1 q_9))))] ⟨h3, h4, h6, h7, rfl⟩ ?_
    rintro s ⟨h3, h4, h6, h7, h9⟩
    refine .nsq ?_
    refine .seq ?_
    refine .seq ?_
    refine run_reg ?_
    refine e_end ?_
    refine g_v1 (t := 9) (u := (.int .i64 (iandNot .i64 r_13 (ixor .i64 s_2.1 q_9)))) (.int .i64 (iandNot .i64 r_13 (ixor .i64 s_2.1 q_9))) h9 rfl rfl ?_
    refine g_v1 (t := 4) (u := (.ref (.bx 4) 0 [] (.agg [(.int .i64 (ixor .i64 s_2.1 q_9)), (.int .i64 s_11)]))) (.ref (.bx 4) 0 [1] (.int .i64 s_11)) h4 rfl rfl ?_
    refine g_v1 (t := 53) (u := (.ref (.bx 4) 0 [1] (.int .i64 s_11))) (.int .i64 s_11) rfl rfl rfl ?_
    refine g_v2 (t1 := 52) (t2 := 54) (u1 := (.int .i64 (iandNot .i64 r_13 (ixor .i64 s_2.1 q_9)))) (u2 := (.int .i64 s_11)) (.bool ((iandNot .i64 r_13 (ixor .i64 s_2.1 q_9)) == s_11)) rfl rfl rfl rfl ?_
    refine g_end ?_
    refine e_end ?_
    refine renew [(3, (.ref (.bx 3) 0 [] (.agg [(Enc.enc (w_1.a : List Int))]))), (4, (.ref (.bx 4) 0 [] (.agg [(.int .i64 (ixor .i64 s_2.1 q_9)), (.int .i64 s_11)]))), (6, (.ref (.bx 6) 0 [] (.agg [(.int .i64 0), (.int .i64 0)]))), (7, (.bool false)), (9, (.int .i64 (iandNot .i64 r_13 (ixor .i64 s_2.1 q_9)))), (55, (.bool ((iandNot .i64 r_13 (ixor .i64 s_2.1 q_9)) == s_11)))] ⟨h3, h4, h6, h7, h9, rfl⟩ ?_
    rintro s ⟨h3, h4, h6, h7, h9, h55⟩
    refine .nsq ?_
    refine run_cond (t := ((iandNot .i64 r_13 (ixor .i64 s_2.1 q_9)) == s_11)) h55 h (fun h => ?_) (fun h => ?_)
    · refine .seq ?_
      refine run_reg ?_
      refine e_end ?_
      refine g_v1 (t := 4) (u := (.ref (.bx 4) 0 [] (.agg [(.int .i64 (ixor .i64 s_2.1 q_9)), (.int .i64 s_11)]))) (.agg [(.int .i64 (ixor .i64 s_2.1 q_9)), (.int .i64 s_11)]) h4 rfl rfl ?_
      refine g_store (.agg [(.int .i64 (ixor .i64 s_2.1 q_9)), (.int .i64 s_11)]) (rd_of h6 rfl) (rd_of rfl rfl) (by refine ⟨by decide, by decide, rfl, rfl, rfl, ?_⟩; first | rfl | simp [V.toks, V.tokss, Enc.toks_enc]) ?_
      refine g_v0 (.bool true) rfl rfl ?_
      refine g_end ?_
      refine e_end ?_
      refine renew [(3, (.ref (.bx 3) 0 [] (.agg [(Enc.enc (w_1.a : List Int))]))), (4, (.ref (.bx 4) 0 [] (.agg [(.int .i64 (ixor .i64 s_2.1 q_9)), (.int .i64 s_11)]))), (6, (.ref (.bx 6) 0 [] (.agg [(.int .i64 (ixor .i64 s_2.1 q_9)), (.int .i64 s_11)]))), (7, (.bool true)), (9, (.int .i64 (iandNot .i64 r_13 (ixor .i64 s_2.1 q_9))))] ⟨(keep_mut h3 (mut_ref_ne rfl rfl (mut_agg (muts_cons (Enc.mut_enc _ _ _ _ (w_1.a : List Int)) rfl)))), (keep_mut h4 rfl), (keep_mut h6 rfl), rfl, (keep_mut h9 rfl)⟩ ?_
      rintro s ⟨h3, h4, h6, h7, h9⟩
      refine .nsq ?_
      refine .ret ?_
      have hr := Option.some.inj h
      subst hr
      exact rrB (res_cell h6 (by kernel_rfl)) (res_tmp h7) (fin_ret1 (fin_tup (fins_cons (fin_enc (x := ((ixor .i64 s_2.1 q_9, s_11) : (Int × Int)))) (fins_cons (fin_enc (x := (true : Bool))) fins_nil))))
    · refine .skip ?_
      refine .nsq ?_
      refine run_reg ?_
      refine e_end ?_
      refine g_v1 (t := 9) (u := (.int .i64 (iandNot .i64 r_13 (ixor .i64 s_2.1 q_9)))) (.int .i64 (iandNot .i64 r_13 (ixor .i64 s_2.1 q_9))) h9 rfl rfl ?_
      refine g_v1 (t := 4) (u := (.ref (.bx 4) 0 [] (.agg [(.int .i64 (ixor .i64 s_2.1 q_9)), (.int .i64 s_11)]))) (.ref (.bx 4) 0 [1] (.int .i64 s_11)) h4 rfl rfl ?_
      refine g_store (.int .i64 (iandNot .i64 r_13 (ixor .i64 s_2.1 q_9))) (rd_of rfl rfl) (rd_of rfl rfl) (by refine ⟨by decide, by decide, rfl, rfl, rfl, ?_⟩; first | rfl | simp [V.toks, V.tokss, Enc.toks_enc]) ?_
      refine g_end ?_
      refine e_end ?_
      refine renew [(3, (.ref (.bx 3) 0 [] (.agg [(Enc.enc (w_1.a : List Int))]))), (4, (.ref (.bx 4) 0 [] (.agg [(.int .i64 (ixor .i64 s_2.1 q_9)), (.int .i64 (iandNot .i64 r_13 (ixor .i64 s_2.1 q_9)))]))), (6, (.ref (.bx 6) 0 [] (.agg [(.int .i64 0), (.int .i64 0)]))), (7, (.bool false))] ⟨(keep_mut h3 (mut_ref_ne rfl rfl (mut_agg (muts_cons (Enc.mut_enc _ _ _ _ (w_1.a : List Int)) rfl)))), (keep_mut h4 rfl), (keep_mut h6 rfl), (keep_mut h7 rfl)⟩ ?_
      rintro s ⟨h3, h4, h6, h7⟩
      refine .nbk ?_
      refine .nlp ?_
      exact ih (iandNot .i64 r_13 (ixor .i64 s_2.1 q_9)) _ ⟨h3, h4, h6, h7⟩ h
def i_net_after_j1 (F : Nat) (w_1 : (S1 (List Int))) (s_2 : (Int × Int)) (x_4 : Int)  (t31_8 : Bool) : Option ((Int × Int) × Bool) :=
  bif t31_8 then
    some (s_2, false)
  else
    (shlI .i64 1 x_4).bind fun q_9 =>
    i_net_after_l1 F w_1 s_2 q_9 F (iandNot .i64 s_2.2 (ixor .i64 s_2.1 q_9))
theorem t_f128_j1 (H : H128 D σ F) (w_1 : (S1 (List Int))) (s_2 : (Int × Int)) (x_4 : Int)  (t31_8 : Bool) (s : Nat → V) (hs : Facts [(3, (.ref (.bx 3) 0 [] (.agg [(Enc.enc (w_1.a : List Int))]))), (4, (.ref (.bx 4) 0 [] (.agg [(.int .i64 s_2.1), (.int .i64 s_2.2)]))), (6, (.ref (.bx 6) 0 [] (.agg [(.int .i64 0), (.int .i64 0)]))), (7, (.bool false)), (8, (.int .i64 x_4)), (31, (.bool t31_8))] s) (h : i_net_after_j1 F w_1 s_2 x_4  t31_8 = some r) : Run D σ (R128 r) (.nrm [.sq A128_5, .sq A128_6]) s := by
  unfold i_net_after_j1 at h
  obtain ⟨h3, h4, h6, h7, h8, h31⟩ := hs
  refine .nsq ?_
  refine run_cond (t := t31_8) h31 h (fun h => ?_) (fun h => ?_)
  · refine .seq ?_
    refine run_reg ?_
    refine e_end ?_
    refine g_v1 (t := 4) (u := (.ref (.bx 4) 0 [] (.agg [(.int .i64 s_2.1), (.int .i64 s_2.2)]))) (.agg [(.int .i64 s_2.1), (.int .i64 s_2.2)]) h4 rfl rfl ?_
    refine g_store (.agg [(.int .i64 s_2.1), (.int .i64 s_2.2)]) (rd_of h6 rfl) (rd_of rfl rfl) (by refine ⟨by decide, by decide, rfl, rfl, rfl, ?_⟩; first | rfl | simp [V.toks, V.tokss, Enc.toks_enc]) ?_
    refine g_v0 (.bool false) rfl rfl ?_
    refine g_end ?_
    refine e_end ?_
    refine renew [(3, (.ref (.bx 3) 0 [] (.agg [(Enc.enc (w_1.a : List Int))]))), (4, (.ref (.bx 4) 0 [] (.agg [(.int .i64 s_2.1), (.int .i64 s_2.2)]))), (6, (.ref (.bx 6) 0 [] (.agg [(.int .i64 s_2.1), (.int .i64 s_2.2)]))), (7, (.bool false)), (8, (.int .i64 x_4))] ⟨(keep_mut h3 (mut_ref_ne rfl rfl (mut_agg (muts_cons (Enc.mut_enc _ _ _ _ (w_1.a : List Int)) rfl)))), (keep_mut h4 rfl), (keep_mut h6 rfl), rfl, (keep_mut h8 rfl)⟩ ?_
    rintro s ⟨h3, h4, h6, h7, h8⟩
    refine .nsq ?_
    refine .ret ?_
    have hr := Option.some.inj h
    subst hr
    exact rrB (res_cell h6 (by kernel_rfl)) (res_tmp h7) (fin_ret1 (fin_tup (fins_cons (fin_enc (x := (s_2 : (Int × Int)))) (fins_cons (fin_enc (x := (false : Bool))) fins_nil))))
  · refine .skip ?_
    refine .nsq ?_
    refine .seq ?_
    refine run_reg ?_
    refine e_end ?_
    refine g_v1 (t := 4) (u := (.ref (.bx 4) 0 [] (.agg [(.int .i64 s_2.1), (.int .i64 s_2.2)]))) (.ref (.bx 4) 0 [0] (.int .i64 s_2.1)) h4 rfl rfl ?_
    refine g_v1 (t := 33) (u := (.ref (.bx 4) 0 [0] (.int .i64 s_2.1))) (.int .i64 s_2.1) rfl rfl rfl ?_
    refine g_v1 (t := 8) (u := (.int .i64 x_4)) (.int .i64 x_4) h8 rfl rfl ?_
    obtain ⟨q_9, E_q_9, h⟩ := bind_some h
    refine g_v (.int .i64 q_9) (ev_shl rfl rfl E_q_9) ?_
    refine g_v2 (t1 := 34) (t2 := 36) (u1 := (.int .i64 s_2.1)) (u2 := (.int .i64 q_9)) (.int .i64 (ixor .i64 s_2.1 q_9)) rfl rfl rfl rfl ?_
    refine g_v1 (t := 4) (u := (.ref (.bx 4) 0 [] (.agg [(.int .i64 s_2.1), (.int .i64 s_2.2)]))) (.ref (.bx 4) 0 [0] (.int .i64 s_2.1)) h4 rfl rfl ?_
    refine g_store (.int .i64 (ixor .i64 s_2.1 q_9)) (rd_of rfl rfl) (rd_of rfl rfl) (by refine ⟨by decide, by decide, rfl, rfl, rfl, ?_⟩; first | rfl | simp [V.toks, V.tokss, Enc.toks_enc]) ?_
    refine g_end ?_
    refine e_end ?_
    refine renew [(3, (.ref (.bx 3) 0 [] (.agg [(Enc.enc (w_1.a : List Int))]))), (4, (.ref (.bx 4) 0 [] (.agg [(.int .i64 (ixor .i64 s_2.1 q_9)), (.int .i64 s_2.2)]))), (6, (.ref (.bx 6) 0 [] (.agg [(.int .i64 0), (.int .i64 0)]))), (7, (.bool false))] ⟨(keep_mut h3 (mut_ref_ne rfl rfl (mut_agg (muts_cons (Enc.mut_enc _ _ _ _ (w_1.a : List Int)) rfl)))), (keep_mut h4 rfl), (keep_mut h6 rfl), (keep_mut h7 rfl)⟩ ?_
    rintro s ⟨h3, h4, h6, h7⟩
    refine .nsq ?_
    refine .seq ?_
    refine run_reg ?_
    refine e_end ?_
    refine g_v1 (t := 4) (u := (.ref (.bx 4) 0 [] (.agg [(.int .i64 (ixor .i64 s_2.1 q_9)), (.int .i64 s_2.2)]))) (.ref (.bx 4) 0 [1] (.int .i64 s_2.2)) h4 rfl rfl ?_
    refine g_v1 (t := 39) (u := (.ref (.bx 4) 0 [1] (.int .i64 s_2.2))) (.int .i64 s_2.2) rfl rfl rfl ?_
    refine g_v1 (t := 4) (u := (.ref (.bx 4) 0 [] (.agg [(.int .i64 (ixor .i64 s_2.1 q_9)), (.int .i64 s_2.2)]))) (.ref (.bx 4) 0 [0] (.int .i64 (ixor .i64 s_2.1 q_9))) h4 rfl rfl ?_
    refine g_v1 (t := 41) (u := (.ref (.bx 4) 0 [0] (.int .i64 (ixor .i64 s_2.1 q_9)))) (.int .i64 (ixor .i64 s_2.1 q_9)) rfl rfl rfl ?_
    refine g_v2 (t1 := 40) (t2 := 42) (u1 := (.int .i64 s_2.2)) (u2 := (.int .i64 (ixor .i64 s_2.1 q_9))) (.int .i64 (iandNot .i64 s_2.2 (ixor .i64 s_2.1 q_9))) rfl rfl rfl rfl ?_
    refine g_v1 (t := 4) (u := (.ref (.bx 4) 0 [] (.agg [(.int .i64 (ixor .i64 s_2.1 q_9)), (.int .i64 s_2.2)]))) (.ref (.bx 4) 0 [1] (.int .i64 s_2.2)) h4 rfl rfl ?_
    refine g_store (.int .i64 (iandNot .i64 s_2.2 (ixor .i64 s_2.1 q_9))) (rd_of rfl rfl) (rd_of rfl rfl) (by refine ⟨by decide, by decide, rfl, rfl, rfl, ?_⟩; first | rfl | simp [V.toks, V.tokss, Enc.toks_enc]) ?_
    refine g_end ?_
    refine e_end ?_
    refine renew [(3, (.ref (.bx 3) 0 [] (.agg [(Enc.enc (w_1.a : List Int))]))), (4, (.ref (.bx 4) 0 [] (.agg [(.int .i64 (ixor .i64 s_2.1 q_9)), (.int .i64 (iandNot .i64 s_2.2 (ixor .i64 s_2.1 q_9)))]))), (6, (.ref (.bx 6) 0 [] (.agg [(.int .i64 0), (.int .i64 0)]))), (7, (.bool false))] ⟨(keep_mut h3 (mut_ref_ne rfl rfl (mut_agg (muts_cons (Enc.mut_enc _ _ _ _ (w_1.a : List Int)) rfl)))), (keep_mut h4 rfl), (keep_mut h6 rfl), (keep_mut h7 rfl)⟩ ?_
    rintro s ⟨h3, h4, h6, h7⟩
    refine .nsq ?_
    refine .block ?_
    refine .loop ?_
    exact t_f128_l1 H w_1 s_2 q_9 F (iandNot .i64 s_2.2 (ixor .i64 s_2.1 q_9)) _ ⟨h3, h4, h6, h7⟩ h
def i_net_after_j2 (F : Nat) (step_3 : Int) (w_1 : (S1 (List Int))) (s_2 : (Int × Int))  (x_4 : Int) : Option ((Int × Int) × Bool) :=
  (i_net_size F w_1).bind fun r_14 =>
  (i_within F x_4 0 (w64 (r_14 - 1))).bind fun r_15 =>
  bif (!r_15) then
    i_net_after_j1 F w_1 s_2 x_4 true
  else
    (shrI .i64 s_2.1 x_4).bind fun q_16 =>
    i_net_after_j1 F w_1 s_2 x_4 (((iand .i64 q_16 1) == 1) != (decide (step_3 < 0)))
theorem t_f128_j2 (H : H128 D σ F) (step_3 : Int) (w_1 : (S1 (List Int))) (s_2 : (Int × Int))  (x_4 : Int) (s : Nat → V) (hs : Facts [(2, (.int .i64 step_3)), (3, (.ref (.bx 3) 0 [] (.agg [(Enc.enc (w_1.a : List Int))]))), (4, (.ref (.bx 4) 0 [] (.agg [(.int .i64 s_2.1), (.int .i64 s_2.2)]))), (6, (.ref (.bx 6) 0 [] (.agg [(.int .i64 0), (.int .i64 0)]))), (7, (.bool false)), (8, (.int .i64 x_4))] s) (h : i_net_after_j2 F step_3 w_1 s_2  x_4 = some r) : Run D σ (R128 r) (.nrm [.sq A128_9]) s := by
  unfold i_net_after_j2 at h
  obtain ⟨h2, h3, h4, h6, h7, h8⟩ := hs
  refine .nsq ?_
  refine .seq ?_
  refine .seq ?_
  refine run_reg ?_
  refine e_end ?_
  refine g_v1 (t := 8) (u := (.int .i64 x_4)) (.int .i64 x_4) h8 rfl rfl ?_
  refine g_v1 (t := 3) (u := (.ref (.bx 3) 0 [] (.agg [(Enc.enc (w_1.a : List Int))]))) (.agg [(Enc.enc (w_1.a : List Int))]) h3 rfl rfl ?_
  obtain ⟨r_14, E_r_14, h⟩ := bind_some h
  refine g_call (m := 0) (al := false) (r := (Enc.enc (r_14 : Int))) [Enc.enc (w_1 : (S1 (List Int)))] (ta_cons (v := (.agg [(Enc.enc (w_1.a : List Int))])) rfl rfl (Enc.erase_enc (w_1 : (S1 (List Int)))) ta_nil) (H.c139 _ _ E_r_14) H.g139 rfl rfl rfl rfl ?_
  refine g_v1 (t := 17) (u := (.int .i64 r_14)) (.int .i64 (w64 (r_14 - 1))) rfl rfl rfl ?_
  obtain ⟨r_15, E_r_15, h⟩ := bind_some h
  refine g_call (m := 0) (al := false) (r := (Enc.enc (r_15 : Bool))) [Enc.enc (x_4 : Int), Enc.enc (0 : Int), Enc.enc (w64 (r_14 - 1) : Int)] (ta_cons (v := (.int .i64 x_4)) rfl rfl rfl (ta_cons (v := (.int .i64 0)) rfl rfl rfl (ta_cons (v := (.int .i64 (w64 (r_14 - 1)))) rfl rfl rfl ta_nil))) (H.c66 _ _ _ _ E_r_15) H.g66 rfl rfl rfl rfl ?_
  refine g_v1 (t := 19) (u := (.bool r_15)) (.bool (!r_15)) rfl rfl rfl ?_
  refine g_v1 (t := 20) (u := (.bool (!r_15))) (.bool (!r_15)) rfl rfl rfl ?_
  refine split_on (c := (!r_15)) h (fun hg7 h => ?_) (fun hg7 h => ?_)
  · refine g_no (Eq.trans (b := .bool (!r_15)) rfl (congrArg V.bool hg7)) ?_
    refine g_no (Eq.trans (b := .bool (!r_15)) rfl (congrArg V.bool hg7)) ?_
    refine g_no (Eq.trans (b := .bool (!r_15)) rfl (congrArg V.bool hg7)) ?_
    refine g_no (Eq.trans (b := .bool (!r_15)) rfl (congrArg V.bool hg7)) ?_
    refine g_no (Eq.trans (b := .bool (!r_15)) rfl (congrArg V.bool hg7)) ?_
    refine g_no (Eq.trans (b := .bool (!r_15)) rfl (congrArg V.bool hg7)) ?_
    refine g_no (Eq.trans (b := .bool (!r_15)) rfl (congrArg V.bool hg7)) ?_
    refine g_no (Eq.trans (b := .bool (!r_15)) rfl (congrArg V.bool hg7)) ?_
    refine g_no (Eq.trans (b := .bool (!r_15)) rfl (congrArg V.bool hg7)) ?_
    refine g_v2 (t1 := 21) (t2 := 30) (u1 := (.bool true)) (u2 := (.tup [])) (.bool true) (Eq.trans (b := .bool (!r_15)) rfl (congrArg V.bool hg7)) rfl rfl rfl ?_
    refine g_end ?_
    refine e_end ?_
    refine renew [(3, (.ref (.bx 3) 0 [] (.agg [(Enc.enc (w_1.a : List Int))]))), (4, (.ref (.bx 4) 0 [] (.agg [(.int .i64 s_2.1), (.int .i64 s_2.2)]))), (6, (.ref (.bx 6) 0 [] (.agg [(.int .i64 0), (.int .i64 0)]))), (7, (.bool false)), (8, (.int .i64 x_4)), (31, (.bool true))] ⟨h3, h4, h6, h7, h8, rfl⟩ ?_
    rintro s ⟨h3, h4, h6, h7, h8, h31⟩
    exact t_f128_j1 H w_1 s_2 x_4 true _ ⟨h3, h4, h6, h7, h8, h31⟩ h
  · refine g_yes (Eq.trans (b := .bool (!r_15)) rfl (congrArg V.bool hg7)) (g_v1 (t := 4) (u := (.ref (.bx 4) 0 [] (.agg [(.int .i64 s_2.1), (.int .i64 s_2.2)]))) (.ref (.bx 4) 0 [0] (.int .i64 s_2.1)) h4 rfl rfl ?_)
    refine g_yes (Eq.trans (b := .bool (!r_15)) rfl (congrArg V.bool hg7)) (g_v1 (t := 22) (u := (.ref (.bx 4) 0 [0] (.int .i64 s_2.1))) (.int .i64 s_2.1) rfl rfl rfl ?_)
    refine g_yes (Eq.trans (b := .bool (!r_15)) rfl (congrArg V.bool hg7)) (g_v1 (t := 8) (u := (.int .i64 x_4)) (.int .i64 x_4) h8 rfl rfl ?_)
    obtain ⟨q_16, E_q_16, h⟩ := bind_some h
    refine g_yes (Eq.trans (b := .bool (!r_15)) rfl (congrArg V.bool hg7)) (g_v (.int .i64 q_16) (ev_shr rfl rfl E_q_16) ?_)
    refine g_yes (Eq.trans (b := .bool (!r_15)) rfl (congrArg V.bool hg7)) (g_v1 (t := 25) (u := (.int .i64 q_16)) (.int .i64 (iand .i64 q_16 1)) rfl rfl rfl ?_)
    refine g_yes (Eq.trans (b := .bool (!r_15)) rfl (congrArg V.bool hg7)) (g_v1 (t := 26) (u := (.int .i64 (iand .i64 q_16 1))) (.bool ((iand .i64 q_16 1) == 1)) rfl rfl rfl ?_)
    refine g_yes (Eq.trans (b := .bool (!r_15)) rfl (congrArg V.bool hg7)) (g_v1 (t := 2) (u := (.int .i64 step_3)) (.int .i64 step_3) h2 rfl rfl ?_)
    refine g_yes (Eq.trans (b := .bool (!r_15)) rfl (congrArg V.bool hg7)) (g_v1 (t := 28) (u := (.int .i64 step_3)) (.bool (decide (step_3 < 0))) rfl rfl rfl ?_)
    refine g_yes (Eq.trans (b := .bool (!r_15)) rfl (congrArg V.bool hg7)) (g_v2 (t1 := 27) (t2 := 29) (u1 := (.bool ((iand .i64 q_16 1) == 1))) (u2 := (.bool (decide (step_3 < 0)))) (.bool (((iand .i64 q_16 1) == 1) != (decide (step_3 < 0)))) rfl rfl rfl rfl ?_)
    refine g_v2 (t1 := 21) (t2 := 30) (u1 := (.bool false)) (u2 := (.bool (((iand .i64 q_16 1) == 1) != (decide (step_3 < 0))))) (.bool (((iand .i64 q_16 1) == 1) != (decide (step_3 < 0)))) (Eq.trans (b := .bool (!r_15)) rfl (congrArg V.bool hg7)) rfl rfl rfl ?_
    refine g_end ?_
    refine e_end ?_
    refine renew [(3, (.ref (.bx 3) 0 [] (.agg [(Enc.enc (w_1.a : List Int))]))), (4, (.ref (.bx 4) 0 [] (.agg [(.int .i64 s_2.1), (.int .i64 s_2.2)]))), (6, (.ref (.bx 6) 0 [] (.agg [(.int .i64 0), (.int .i64 0)]))), (7, (.bool false)), (8, (.int .i64 x_4)), (31, (.bool (((iand .i64 q_16 1) == 1) != (decide (step_3 < 0)))))] ⟨h3, h4, h6, h7, h8, rfl⟩ ?_
    rintro s ⟨h3, h4, h6, h7, h8, h31⟩
    exact t_f128_j1 H w_1 s_2 x_4 (((iand .i64 q_16 1) == 1) != (decide (step_3 < 0))) _ ⟨h3, h4, h6, h7, h8, h31⟩ h
def i_net_after (F : Nat) (w_1 : (S1 (List Int))) (s_2 : (Int × Int)) (step_3 : Int) : Option ((Int × Int) × Bool) :=
  bif decide (step_3 < 0) then
    i_net_after_j2 F step_3 w_1 s_2 (w64 ((-1) - step_3))
  else
    i_net_after_j2 F step_3 w_1 s_2 step_3
theorem t128 (H : H128 D σ F) (w_1 : (S1 (List Int))) (s_2 : (Int × Int)) (step_3 : Int) (s : Nat → V) (hs : Facts [(0, (.agg [(Enc.enc (w_1.a : List Int))])), (1, (.agg [(.int .i64 s_2.1), (.int .i64 s_2.2)])), (2, (.int .i64 step_3))] s) (h : i_net_after F w_1 s_2 step_3 = some r) : Run D σ (R128 r) (.run A128 []) s := by
  unfold i_net_after at h
  obtain ⟨h0, h1, h2⟩ := hs
  refine .seq ?_
  refine run_reg ?_
  refine e_clr ?_
  refine e_end ?_
  refine g_box (.agg [(Enc.enc (w_1.a : List Int))]) (rd_of (keep_clear (s := s) (pk := [3, 4, 6]) h0 rfl (map_agg (maps_cons (Enc.map_enc _ (w_1.a : List Int)) maps_nil))) rfl) (gone_clear (s := s) (pk := [3, 4, 6]) (t := 3) rfl) rfl ?_
  refine g_box (.agg [(.int .i64 s_2.1), (.int .i64 s_2.2)]) (rd_of (keep_clear (s := s) (pk := [3, 4, 6]) h1 rfl (map_agg (maps_cons rfl (maps_cons rfl maps_nil)))) rfl) (gone_clear (s := s) (pk := [3, 4, 6]) (t := 4) rfl) rfl ?_
  refine g_alloc (gone_clear (s := s) (pk := [3, 4, 6]) (t := 6) rfl) ?_
  refine g_v0 (.bool false) rfl rfl ?_
  refine g_end ?_
  refine e_end ?_
  refine renew [(2, (.int .i64 step_3)), (3, (.ref (.bx 3) 0 [] (.agg [(Enc.enc (w_1.a : List Int))]))), (4, (.ref (.bx 4) 0 [] (.agg [(.int .i64 s_2.1), (.int .i64 s_2.2)]))), (6, (.ref (.bx 6) 0 [] (.agg [(.int .i64 0), (.int .i64 0)]))), (7, (.bool false))] ⟨(keep_clear (s := s) (pk := [3, 4, 6]) h2 rfl rfl), rfl, rfl, rfl, rfl⟩ ?_
  rintro s ⟨h2, h3, h4, h6, h7⟩
  refine .nsq ?_
  refine .seq ?_
  refine run_reg ?_
  refine e_end ?_
  refine g_v1 (t := 2) (u := (.int .i64 step_3)) (.int .i64 step_3) h2 rfl rfl ?_
  refine g_v1 (t := 10) (u := (.int .i64 step_3)) (.int .i64 step_3) rfl rfl rfl ?_
  refine g_end ?_
  refine e_end ?_
  refine renew [(2, (.int .i64 step_3)), (3, (.ref (.bx 3) 0 [] (.agg [(Enc.enc (w_1.a : List Int))]))), (4, (.ref (.bx 4) 0 [] (.agg [(.int .i64 s_2.1), (.int .i64 s_2.2)]))), (6, (.ref (.bx 6) 0 [] (.agg [(.int .i64 0), (.int .i64 0)]))), (7, (.bool false)), (8, (.int .i64 step_3))] ⟨h2, h3, h4, h6, h7, rfl⟩ ?_
  rintro s ⟨h2, h3, h4, h6, h7, h8⟩
  refine .nsq ?_
  refine .seq ?_
  refine .seq ?_
  refine run_reg ?_
  refine e_end ?_
  refine g_v1 (t := 2) (u := (.int .i64 step_3)) (.int .i64 step_3) h2 rfl rfl ?_
  refine g_v1 (t := 11) (u := (.int .i64 step_3)) (.bool (decide (step_3 < 0))) rfl rfl rfl ?_
  refine g_end ?_
  refine e_end ?_
  refine renew [(2, (.int .i64 step_3)), (3, (.ref (.bx 3) 0 [] (.agg [(Enc.enc (w_1.a : List Int))]))), (4, (.ref (.bx 4) 0 [] (.agg [(.int .i64 s_2.1), (.int .i64 s_2.2)]))), (6, (.ref (.bx 6) 0 [] (.agg [(.int .i64 0), (.int .i64 0)]))), (7, (.bool false)), (8, (.int .i64 step_3)), (12, (.bool (decide (step_3 < 0))))] ⟨h2, h3, h4, h6, h7, h8, rfl⟩ ?_
  rintro s ⟨h2, h3, h4, h6, h7, h8, h12⟩
  refine .nsq ?_
  refine run_cond (t := decide (step_3 < 0)) h12 h (fun h => ?_) (fun h => ?_)
  · refine run_reg ?_
    refine e_end ?_
    refine g_v1 (t := 2) (u := (.int .i64 step_3)) (.int .i64 step_3) h2 rfl rfl ?_
    refine g_v1 (t := 13) (u := (.int .i64 step_3)) (.int .i64 (w64 ((-1) - step_3))) rfl rfl rfl ?_
    refine g_v1 (t := 14) (u := (.int .i64 (w64 ((-1) - step_3)))) (.int .i64 (w64 ((-1) - step_3))) rfl rfl rfl ?_
    refine g_end ?_
    refine e_end ?_
    refine renew [(2, (.int .i64 step_3)), (3, (.ref (.bx 3) 0 [] (.agg [(Enc.enc (w_1.a : List Int))]))), (4, (.ref (.bx 4) 0 [] (.agg [(.int .i64 s_2.1), (.int .i64 s_2.2)]))), (6, (.ref (.bx 6) 0 [] (.agg [(.int .i64 0), (.int .i64 0)]))), (7, (.bool false)), (8, (.int .i64 (w64 ((-1) - step_3))))] ⟨h2, h3, h4, h6, h7, rfl⟩ ?_
    rintro s ⟨h2, h3, h4, h6, h7, h8⟩
    exact t_f128_j2 H step_3 w_1 s_2 (w64 ((-1) - step_3)) _ ⟨h2, h3, h4, h6, h7, h8⟩ h
  · refine .skip ?_
    exact t_f128_j2 H step_3 w_1 s_2 step_3 _ ⟨h2, h3, h4, h6, h7, h8⟩ h
end
def e128 (F : Nat) : Ent := ⟨128, dn3 (i_net_after F) (fun (r : ((Int × Int) × Bool)) => (.tup [Enc.enc (r.1 : (Int × Int)), Enc.enc (r.2 : Bool)])), 0, true⟩
theorem o128 {D : Den} {σ : Sig} {F : Nat} (hF : Fits2 Try.prog D σ) (H : H128 D σ F) : (e128 F).Ok Try.prog := by
  refine ⟨fun args r h => ?_, ⟨Try.f128, Try.func128, rfl, rfl⟩⟩
  obtain ⟨x0, x1, x2, y, rfl, hy, rfl⟩ := dn3_open h
  exact contract_run hF (by kernel_rfl) Try.func128 rfl c128 (show 3 ≤ Try.f128.ntmps by decide) (t128 H x0 x1 x2 _ ⟨rfl, rfl, rfl⟩ hy)
/- (loop.example/g01109/impl.net).runProgram -/
def A91_6 : AC := (AC.cond (O.t 36) (AC.seq (AC.reg [] [(I.mk (some 4) none false (X.v (A.mov (O.k (V.sl Tok.nl (Sh.ag [Sh.s, Sh.s]) 0 []))))), (I.mk (some 5) none false (X.v (A.mov (O.k (V.bool false)))))] []) AC.ret) AC.skip)
def A91_7 : AC := (AC.reg [.clr [39, 40]] [(I.mk (some 37) none false (X.v (A.mov (O.t 6)))), (I.mk (some 38) none false (X.v (A.load (Sh.ag [Sh.s, Sh.s]) (O.t 9)))), (I.mk (some 39) none false (X.lit (V.agg [(V.int IntKind.i64 (Int.ofNat 0)), (V.int IntKind.i64 (Int.ofNat 0))]) 1 [(0, 0, (O.t 38))])), (I.mk (some 40) none false (X.app (Sh.ag [Sh.s, Sh.s]) (O.t 37) (O.t 39))), (I.mk (some 6) none false (X.v (A.mov (O.t 40))))] [.home 40 6])
def A91_5 : AC := (AC.seq (AC.seq (AC.reg [] [(I.mk (some 35) none false (X.v (A.mov (O.t 10)))), (I.mk (some 36) none false (X.v (A.un UnOp.not (O.t 35))))] []) A91_6) A91_7)
def A91_4 : AC := (AC.seq (AC.reg [.clr [9]] [(I.mk (some 26) none false (X.v (A.load (Sh.ag [Sh.p]) (O.t 2)))), (I.mk (some 27) none false (X.v (A.mov (O.t 6)))), (I.mk (some 28) none false (X.v (A.mov (O.t 7)))), (I.mk (some 29) none false (X.v (A.idx (O.t 27) (O.t 28) 2))), (I.mk (some 30) none false (X.v (A.load (Sh.ag [Sh.s, Sh.s]) (O.t 29)))), (I.mk (some 31) none false (X.v (A.mov (O.t 8)))), (I.mk (some 32) none false (X.call (O.k (V.fn 128 [] [])) [(O.t 26), (O.t 30), (O.t 31)])), (I.mk (some 25) none false (X.v (A.mov (O.t 32)))), (I.mk (some 33) none false (X.v (A.ext (O.t 25) 0))), (I.mk (some 34) none false (X.v (A.extS (O.t 25) 1))), (I.mk (some 9) none false (X.alloc (V.agg [(V.int IntKind.i64 (Int.ofNat 0)), (V.int IntKind.i64 (Int.ofNat 0))]))), (I.mk none none false (X.store (Sh.ag [Sh.s, Sh.s]) (O.t 9) (O.t 33))), (I.mk (some 10) none false (X.v (A.mov (O.t 34))))] []) A91_5)
def A91_8 : AC := (AC.reg [] [(I.mk (some 41) none false (X.v (A.bin BinOp.add (O.t 20) (O.k (V.int IntKind.i64 (Int.ofNat 1)))))), (I.mk (some 20) none false (X.v (A.mov (O.t 41))))] [])
def A91_3 : AC := (AC.seq (AC.block 1 (AC.seq (AC.reg [] [(I.mk (some 22) none false (X.v (A.mov (O.t 20)))), (I.mk (some 23) none false (X.v (A.idx (O.t 18) (O.t 20) 1))), (I.mk (some 24) none false (X.v (A.load Sh.s (O.t 23)))), (I.mk (some 7) none false (X.v (A.mov (O.t 22)))), (I.mk (some 8) none false (X.v (A.mov (O.t 24))))] []) A91_4)) A91_8)
def A91_2 : AC := (AC.seq (AC.cond (O.t 21) AC.skip (AC.exit 0)) A91_3)
def A91_1 : AC := (AC.seq (AC.reg [] [(I.mk (some 21) none false (X.v (A.bin BinOp.lss (O.t 20) (O.t 19))))] []) A91_2)
def A91_9 : AC := (AC.seq (AC.reg [] [(I.mk (some 42) none false (X.v (A.mov (O.t 6)))), (I.mk (some 4) none false (X.v (A.mov (O.t 42)))), (I.mk (some 5) none false (X.v (A.mov (O.k (V.bool true)))))] [.home 6 4]) AC.ret)
def A91_11 : AC := (AC.cond (O.t 13) (AC.seq (AC.reg [] [(I.mk (some 4) none false (X.v (A.mov (O.k (V.sl Tok.nl (Sh.ag [Sh.s, Sh.s]) 0 []))))), (I.mk (some 5) none false (X.v (A.mov (O.k (V.bool false)))))] []) AC.ret) AC.skip)
def A91_14 : AC := (AC.block 0 (AC.loop A91_1))
def A91_13 : AC := (AC.seq (AC.seq (AC.reg [] [(I.mk (some 18) none false (X.v (A.mov (O.t 1)))), (I.mk (some 19) none false (X.v (A.len (O.t 18)))), (I.mk (some 20) none false (X.v (A.mov (O.k (V.int IntKind.i64 (Int.ofNat 0))))))] []) A91_14) A91_9)
def A91_12 : AC := (AC.seq (AC.reg [.clr [17]] [(I.mk (some 14) none false (X.v (A.load (Sh.ag [Sh.p]) (O.t 2)))), (I.mk (some 15) none false (X.call (O.k (V.fn 68 [] [])) [(O.t 14)])), (I.mk (some 16) none false (X.v (A.bld (V.agg [(V.int IntKind.i64 (Int.ofNat 0)), (V.int IntKind.i64 (Int.ofNat 0))]) [(0, 0, (O.k (V.int IntKind.i64 (Int.ofNat 0)))), (1, 1, (O.t 15))]))), (I.mk (some 17) none false (X.lit (V.agg [(V.int IntKind.i64 (Int.ofNat 0)), (V.int IntKind.i64 (Int.ofNat 0))]) 1 [(0, 0, (O.t 16))])), (I.mk (some 6) none false (X.v (A.mov (O.t 17))))] [.home 17 6]) A91_13)
def A91_10 : AC := (AC.seq (AC.seq (AC.reg [] [(I.mk (some 11) none false (X.v (A.mov (O.t 1)))), (I.mk (some 12) none false (X.v (A.len (O.t 11)))), (I.mk (some 13) none false (X.v (A.bin BinOp.gtr (O.t 12) (O.k (V.int IntKind.i64 (Int.ofNat 40))))))] []) A91_11) A91_12)
def A91 : AC := (AC.seq (AC.reg [.clr [2]] [(I.mk (some 2) none false (X.box (O.t 0))), (I.mk (some 4) none false (X.v (A.mov (O.k (V.sl Tok.nl (Sh.ag [Sh.s, Sh.s]) 0 []))))), (I.mk (some 5) none false (X.v (A.mov (O.k (V.bool false)))))] []) A91_10)
def an91 : List An := [{ id := 0, pre := [.clr [2]], ep := [], lin := [], sp := [] }, { id := 3, pre := [.clr [17]], ep := [.home 17 6], lin := [], sp := [] }, { id := 7, pre := [.clr [9]], ep := [], lin := [], sp := [] }, { id := 10, pre := [.clr [39, 40]], ep := [.home 40 6], lin := [], sp := [] }, { id := 12, pre := [], ep := [.home 6 4], lin := [], sp := [] }]
theorem c91 : cC Try.prog Try.f91.ntmps an91 (Try.f91.body.getD .skip) = some A91 := by kernel_rfl
structure H91 (D : Den) (σ : Sig) (F : Nat) : Prop where
  c68 : ∀ x0 r, i_net_all F x0 = some r → D 68 [Enc.enc x0] = some (Enc.enc (r : Int))
  g68 : σ 68 = some (0, false)
  c128 : ∀ x0 x1 x2 r, i_net_after F x0 x1 x2 = some r → D 128 [Enc.enc x0, Enc.enc x1, Enc.enc x2] = some (.tup [Enc.enc (r.1 : (Int × Int)), Enc.enc (r.2 : Bool)])
  g128 : σ 128 = some (0, true)
abbrev R91 (r : ((List (Int × Int)) × Bool)) : (Nat → V) → Prop := RR Try.prog [.tmp 4, .tmp 5] 0 true (.tup [Enc.enc (r.1 : (List (Int × Int))), Enc.enc (r.2 : Bool)])
section
variable {D : Den} {σ : Sig} {F : Nat} {r : ((List (Int × Int)) × Bool)}
def i_net_runProgram_l1 (F : Nat) (w_1 : (S1 (List Int))) (program_2 : (List Int))  : Nat → (List (Int × Int)) → Int → Option ((List (Int × Int)) × Bool)
  | 0, _, _ => none
  | k + 1, states_8, t20_9 =>
    bif decide (t20_9 < (program_2.length : Int)) then
      (idx program_2 t20_9).bind fun e_14 =>
      (idx states_8 t20_9).bind fun e_15 =>
      (i_net_after F w_1 e_15 e_14).bind fun r_16 =>
      bif (!r_16.2) then
        some ([], false)
      else
        (appL states_8 [r_16.1]).bind fun ap_17 =>
        (i_net_runProgram_l1 F w_1 program_2 k) ap_17 (w64 (t20_9 + 1))
    else
      some (states_8, true)
theorem t_f91_l1 (H : H91 D σ F) (w_1 : (S1 (List Int))) (program_2 : (List Int))  : ∀ (k : Nat) (states_8 : (List (Int × Int))) (t20_9 : Int) (s : Nat → V), Facts [(2, (.ref (.bx 2) 0 [] (.agg [(Enc.enc (w_1.a : List Int))]))), (4, (.sl .nl (Enc.shp (Int × Int)) 0 [])), (5, (.bool false)), (6, (encO (.at 6 []) (.of (states_8 : List (Int × Int))))), (18, (Enc.enc (program_2 : List Int))), (19, (.int .i64 (program_2.length : Int))), (20, (.int .i64 t20_9))] s → i_net_runProgram_l1 F w_1 program_2 k states_8 t20_9 = some r → Run D σ (R91 r) (.run A91_1 [.lp A91_1, .bk 0, .sq A91_9]) s := by
  intro k
  induction k with
  | zero => intro states_8 t20_9 s _ h; exact nomatch (h : (none : Option _) = some r)
  | succ k ih =>
    intro states_8 t20_9 s hs h
    rw [i_net_runProgram_l1] at h
    obtain ⟨h2, h4, h5, h6, h18, h19, h20⟩ := hs
    refine .seq ?_
    refine run_reg ?_
    refine e_end ?_
    refine g_v2 (t1 := 20) (t2 := 19) (u1 := (.int .i64 t20_9)) (u2 := (.int .i64 (program_2.length : Int))) (.bool (decide (t20_9 < (program_2.length : Int)))) h20 h19 rfl rfl ?_
    refine g_end ?_
    refine e_end ?_
    refine renew [(2, (.ref (.bx 2) 0 [] (.agg [(Enc.enc (w_1.a : List Int))]))), (4, (.sl .nl (Enc.shp (Int × Int)) 0 [])), (5, (.bool false)), (6, (encO (.at 6 []) (.of (states_8 : List (Int × Int))))), (18, (Enc.enc (program_2 : List Int))), (19, (.int .i64 (program_2.length : Int))), (20, (.int .i64 t20_9)), (21, (.bool (decide (t20_9 < (program_2.length : Int)))))] ⟨h2, h4, h5, h6, h18, h19, h20, rfl⟩ ?_
    rintro s ⟨h2, h4, h5, h6, h18, h19, h20, h21⟩
    refine .nsq ?_
    refine .seq ?_
    refine run_cond (t := decide (t20_9 < (program_2.length : Int))) h21 h (fun h => ?_) (fun h => ?_)
    · refine .skip ?_
      refine .nsq ?_
      refine .seq ?_
      refine .block ?_
      refine .seq ?_
      refine run_reg ?_
      refine e_end ?_
      refine g_v1 (t := 20) (u := (.int .i64 t20_9)) (.int .i64 t20_9) h20 rfl rfl ?_
      obtain ⟨e_14, E_e_14, h⟩ := bind_some h
      refine g_v (.ref .sh 0 [] (.int .i64 e_14)) (ev_idx (t := .sh) (lo := 0) (xs := program_2) h18 h20 E_e_14 rfl rfl) ?_
      refine g_v1 (t := 23) (u := (.ref .sh 0 [] (.int .i64 e_14))) (.int .i64 e_14) rfl rfl rfl ?_
      refine g_v1 (t := 22) (u := (.int .i64 t20_9)) (.int .i64 t20_9) rfl rfl rfl ?_
      refine g_v1 (t := 24) (u := (.int .i64 e_14)) (.int .i64 e_14) rfl rfl rfl ?_
      refine g_end ?_
      refine e_end ?_
      refine renew [(2, (.ref (.bx 2) 0 [] (.agg [(Enc.enc (w_1.a : List Int))]))), (4, (.sl .nl (Enc.shp (Int × Int)) 0 [])), (5, (.bool false)), (6, (encO (.at 6 []) (.of (states_8 : List (Int × Int))))), (7, (.int .i64 t20_9)), (8, (.int .i64 e_14)), (18, (Enc.enc (program_2 : List Int))), (19, (.int .i64 (program_2.length : Int))), (20, (.int .i64 t20_9))] ⟨h2, h4, h5, h6, rfl, rfl, h18, h19, h20⟩ ?_
      rintro s ⟨h2, h4, h5, h6, h7, h8, h18, h19, h20⟩
      refine .nsq ?_
      refine .seq ?_
      refine run_reg ?_
      refine e_clr ?_
      refine e_end ?_
      refine g_v1 (t := 2) (u := (.ref (.bx 2) 0 [] (.agg [(Enc.enc (w_1.a : List Int))]))) (.agg [(Enc.enc (w_1.a : List Int))]) (keep_clear (s := s) (pk := [9]) h2 rfl (map_bx rfl (map_agg (maps_cons (Enc.map_enc _ (w_1.a : List Int)) maps_nil)))) rfl rfl ?_
      refine g_v1 (t := 6) (u := (encO (.at 6 []) (.of (states_8 : List (Int × Int))))) (encO (.at 6 []) (.of (states_8 : List (Int × Int)))) (keep_clear (s := s) (pk := [9]) h6 rfl (map_encO (r := 6) (p := []) rfl rfl)) rfl rfl ?_
      refine g_v1 (t := 7) (u := (.int .i64 t20_9)) (.int .i64 t20_9) (keep_clear (s := s) (pk := [9]) h7 rfl rfl) rfl rfl ?_
      obtain ⟨e_15, E_e_15, h⟩ := bind_some h
      refine g_v (.ref (.at 6 []) t20_9.toNat [] (.agg [(.int .i64 e_15.1), (.int .i64 e_15.2)])) (ev_idxO (o := (.of states_8)) rfl rfl E_e_15 rfl) ?_
      refine g_v1 (t := 29) (u := (.ref (.at 6 []) t20_9.toNat [] (.agg [(.int .i64 e_15.1), (.int .i64 e_15.2)]))) (.agg [(.int .i64 e_15.1), (.int .i64 e_15.2)]) rfl rfl rfl ?_
      refine g_v1 (t := 8) (u := (.int .i64 e_14)) (.int .i64 e_14) (keep_clear (s := s) (pk := [9]) h8 rfl rfl) rfl rfl ?_
      obtain ⟨r_16, E_r_16, h⟩ := bind_some h
      refine g_call (m := 0) (al := true) (r := (.tup [Enc.enc (r_16.1 : (Int × Int)), Enc.enc (r_16.2 : Bool)])) [Enc.enc (w_1 : (S1 (List Int))), Enc.enc (e_15 : (Int × Int)), Enc.enc (e_14 : Int)] (ta_cons (v := (.agg [(Enc.enc (w_1.a : List Int))])) rfl rfl (Enc.erase_enc (w_1 : (S1 (List Int)))) (ta_cons (v := (.agg [(.int .i64 e_15.1), (.int .i64 e_15.2)])) rfl rfl (Enc.erase_enc (e_15 : (Int × Int))) (ta_cons (v := (.int .i64 e_14)) rfl rfl rfl ta_nil))) (H.c128 _ _ _ _ E_r_16) H.g128 (hal_of (ht_cons (v := (.agg [(Enc.enc (w_1.a : List Int))])) rfl rfl rfl (ht_cons (v := (.agg [(.int .i64 e_15.1), (.int .i64 e_15.2)])) rfl rfl rfl (ht_cons (v := (.int .i64 e_14)) rfl rfl rfl ht_nil)))) rfl rfl rfl ?_
      refine g_v1 (t := 32) (u := (.tup [(.agg [(.int .i64 r_16.1.1), (.int .i64 r_16.1.2)]), (.bool r_16.2)])) (.tup [(.agg [(.int .i64 r_16.1.1), (.int .i64 r_16.1.2)]), (.bool r_16.2)]) rfl rfl rfl ?_
      refine g_v1 (t := 25) (u := (.tup [(.agg [(.int .i64 r_16.1.1), (.int .i64 r_16.1.2)]), (.bool r_16.2)])) (.agg [(.int .i64 r_16.1.1), (.int .i64 r_16.1.2)]) rfl rfl rfl ?_
      refine g_v1 (t := 25) (u := (.tup [(.agg [(.int .i64 r_16.1.1), (.int .i64 r_16.1.2)]), (.bool r_16.2)])) (.bool r_16.2) rfl rfl rfl ?_
      refine g_alloc (gone_clear (s := s) (pk := [9]) (t := 9) rfl) ?_
      refine g_store (.agg [(.int .i64 r_16.1.1), (.int .i64 r_16.1.2)]) (rd_of rfl rfl) (rd_of rfl rfl) (by refine ⟨by decide, by decide, rfl, rfl, rfl, ?_⟩; first | rfl | simp [V.toks, V.tokss, Enc.toks_enc]) ?_
      refine g_v1 (t := 34) (u := (.bool r_16.2)) (.bool r_16.2) (keep_mut rfl rfl) rfl rfl ?_
      refine g_end ?_
      refine e_end ?_
      refine renew [(2, (.ref (.bx 2) 0 [] (.agg [(Enc.enc (w_1.a : List Int))]))), (4, (.sl .nl (Enc.shp (Int × Int)) 0 [])), (5, (.bool false)), (6, (encO (.at 6 []) (.of (states_8 : List (Int × Int))))), (9, (.ref (.bx 9) 0 [] (.agg [(.int .i64 r_16.1.1), (.int .i64 r_16.1.2)]))), (10, (.bool r_16.2)), (18, (Enc.enc (program_2 : List Int))), (19, (.int .i64 (program_2.length : Int))), (20, (.int .i64 t20_9))] ⟨(keep_mut (keep_clear (s := s) (pk := [9]) h2 rfl (map_bx rfl (map_agg (maps_cons (Enc.map_enc _ (w_1.a : List Int)) maps_nil)))) (mut_ref_ne rfl rfl (mut_agg (muts_cons (Enc.mut_enc _ _ _ _ (w_1.a : List Int)) rfl)))), (keep_mut (keep_clear (s := s) (pk := [9]) h4 rfl rfl) rfl), (keep_mut (keep_clear (s := s) (pk := [9]) h5 rfl rfl) rfl), (keep_mut (keep_clear (s := s) (pk := [9]) h6 rfl (map_encO (r := 6) (p := []) rfl rfl)) (mut_own_ne rfl rfl)), (keep_mut rfl rfl), rfl, (keep_mut (keep_clear (s := s) (pk := [9]) h18 rfl (Enc.map_enc _ (program_2 : List Int))) (Enc.mut_enc _ _ _ _ (program_2 : List Int))), (keep_mut (keep_clear (s := s) (pk := [9]) h19 rfl rfl) rfl), (keep_mut (keep_clear (s := s) (pk := [9]) h20 rfl rfl) rfl)⟩ ?_
      rintro s ⟨h2, h4, h5, h6, h9, h10, h18, h19, h20⟩
      refine .nsq ?_
      refine .seq ?_
      refine .seq ?_
      refine run_reg ?_
      refine e_end ?_
      refine g_v1 (t := 10) (u := (.bool r_16.2)) (.bool r_16.2) h10 rfl rfl ?_
      refine g_v1 (t := 35) (u := (.bool r_16.2)) (.bool (!r_16.2)) rfl rfl rfl ?_
      refine g_end ?_
      refine e_end ?_
      refine renew [(2, (.ref (.bx 2) 0 [] (.agg [(Enc.enc (w_1.a : List Int))]))), (4, (.sl .nl (Enc.shp (Int × Int)) 0 [])), (5, (.bool false)), (6, (encO (.at 6 []) (.of (states_8 : List (Int × Int))))), (9, (.ref (.bx 9) 0 [] (.agg [(.int .i64 r_16.1.1), (.int .i64 r_16.1.2)]))), (18, (Enc.enc (program_2 : List Int))), (19, (.int .i64 (program_2.length : Int))), (20, (.int .i64 t20_9)), (36, (.bool (!r_16.2)))] ⟨h2, h4, h5, h6, h9, h18, h19, h20, rfl⟩ ?_
      rintro s ⟨h2, h4, h5, h6, h9, h18, h19, h20, h36⟩
      refine .nsq ?_
      refine run_cond (t := (!r_16.2)) h36 h (fun h => ?_) (fun h => ?_)
      · refine .seq ?_
        refine run_reg ?_
        refine e_end ?_
        refine g_v0 (.sl .nl (Enc.shp (Int × Int)) 0 []) rfl rfl ?_
        refine g_v0 (.bool false) rfl rfl ?_
        refine g_end ?_
        refine e_end ?_
        refine renew [(2, (.ref (.bx 2) 0 [] (.agg [(Enc.enc (w_1.a : List Int))]))), (4, (.sl .nl (Enc.shp (Int × Int)) 0 [])), (5, (.bool false)), (6, (encO (.at 6 []) (.of (states_8 : List (Int × Int))))), (9, (.ref (.bx 9) 0 [] (.agg [(.int .i64 r_16.1.1), (.int .i64 r_16.1.2)]))), (18, (Enc.enc (program_2 : List Int))), (19, (.int .i64 (program_2.length : Int))), (20, (.int .i64 t20_9))] ⟨h2, rfl, rfl, h6, h9, h18, h19, h20⟩ ?_
        rintro s ⟨h2, h4, h5, h6, h9, h18, h19, h20⟩
        refine .nsq ?_
        refine .ret ?_
        have hr := Option.some.inj h
        subst hr
        exact rrB (res_tmp h4) (res_tmp h5) (fin_ret1 (fin_tup (fins_cons (fin_own (o := (.nil : NL (Int × Int))) (t := .nl)) (fins_cons (fin_enc (x := (false : Bool))) fins_nil))))
      · refine .skip ?_
        refine .nsq ?_
        refine run_reg ?_
        refine e_clr ?_
        refine e_end ?_
        refine g_v1 (t := 6) (u := (encO (.at 6 []) (.of (states_8 : List (Int × Int))))) (encO (.at 6 []) (.of (states_8 : List (Int × Int)))) (keep_clear (s := s) (pk := [39, 40]) h6 rfl (map_encO (r := 6) (p := []) rfl rfl)) rfl rfl ?_
        refine g_v1 (t := 9) (u := (.ref (.bx 9) 0 [] (.agg [(.int .i64 r_16.1.1), (.int .i64 r_16.1.2)]))) (.agg [(.int .i64 r_16.1.1), (.int .i64 r_16.1.2)]) (keep_clear (s := s) (pk := [39, 40]) h9 rfl (map_bx rfl (map_agg (maps_cons rfl (maps_cons rfl maps_nil))))) rfl rfl ?_
        refine g_litL [(38, (.agg [(.int .i64 r_16.1.1), (.int .i64 r_16.1.2)]))] [Enc.enc (r_16.1 : (Int × Int))] rfl rfl rfl (gone_clear (s := s) (pk := [39, 40]) (t := 39) rfl) ?_
        obtain ⟨ap_17, E_ap_17, h⟩ := bind_some h
        refine g_app (q := 6) (p := []) (o := (.of (states_8 : List (Int × Int)))) (ys := ([r_16.1] : List (Int × Int))) (t2 := (.at 39 [])) (lo2 := 0) rfl rfl rfl (gone_clear (s := s) (pk := [39, 40]) (t := 40) rfl) (appN_L (o := (.of (states_8 : List (Int × Int)))) E_ap_17 trivial) (fun s_14 ha_14 => ?_)
        refine g_v1 (t := 40) (u := (encO (.at 40 []) (.of (ap_17 : List (Int × Int))))) (encO (.at 40 []) (.of (ap_17 : List (Int × Int)))) rfl rfl rfl ?_
        refine g_end ?_
        refine e_home (r := 40) (x := 6) (v := (encO (.at 40 []) (.of (ap_17 : List (Int × Int))))) (by exact rfl) rfl (fun s_15 hg_15 => ?_)
        refine e_end ?_
        refine renew [(2, (.ref (.bx 2) 0 [] (.agg [(Enc.enc (w_1.a : List Int))]))), (4, (.sl .nl (Enc.shp (Int × Int)) 0 [])), (5, (.bool false)), (6, (encO (.at 6 []) (.of (ap_17 : List (Int × Int))))), (18, (Enc.enc (program_2 : List Int))), (19, (.int .i64 (program_2.length : Int))), (20, (.int .i64 t20_9))] ⟨(hg_15 2 (.ref (.bx 2) 0 [] (.agg [(Enc.enc (w_1.a : List Int))])) (.ref (.bx 2) 0 [] (.agg [(Enc.enc (w_1.a : List Int))])) (show s_14 2 = (.ref (.bx 2) 0 [] (.agg [(Enc.enc (w_1.a : List Int))])) from keep_app ha_14 (keep_clear (s := s) (pk := [39, 40]) h2 rfl (map_bx rfl (map_agg (maps_cons (Enc.map_enc _ (w_1.a : List Int)) maps_nil)))) (map_bx rfl (map_agg (maps_cons (Enc.map_enc _ (w_1.a : List Int)) maps_nil)))) (map_bx rfl (map_agg (maps_cons (Enc.map_enc _ (w_1.a : List Int)) maps_nil)))), (hg_15 4 (.sl .nl (Enc.shp (Int × Int)) 0 []) (.sl .nl (Enc.shp (Int × Int)) 0 []) (show s_14 4 = (.sl .nl (Enc.shp (Int × Int)) 0 []) from keep_app ha_14 (keep_clear (s := s) (pk := [39, 40]) h4 rfl rfl) rfl) rfl), (hg_15 5 (.bool false) (.bool false) (show s_14 5 = (.bool false) from keep_app ha_14 (keep_clear (s := s) (pk := [39, 40]) h5 rfl rfl) rfl) rfl), (hg_15 6 (encO (.at 40 []) (.of (ap_17 : List (Int × Int)))) (encO (.at 6 []) (.of (ap_17 : List (Int × Int)))) rfl (map_encO (r := 40) (p := []) rfl rfl)), (hg_15 18 (Enc.enc (program_2 : List Int)) (Enc.enc (program_2 : List Int)) (show s_14 18 = (Enc.enc (program_2 : List Int)) from keep_app ha_14 (keep_clear (s := s) (pk := [39, 40]) h18 rfl (Enc.map_enc _ (program_2 : List Int))) (Enc.map_enc _ (program_2 : List Int))) (Enc.map_enc _ (program_2 : List Int))), (hg_15 19 (.int .i64 (program_2.length : Int)) (.int .i64 (program_2.length : Int)) (show s_14 19 = (.int .i64 (program_2.length : Int)) from keep_app ha_14 (keep_clear (s := s) (pk := [39, 40]) h19 rfl rfl) rfl) rfl), (hg_15 20 (.int .i64 t20_9) (.int .i64 t20_9) (show s_14 20 = (.int .i64 t20_9) from keep_app ha_14 (keep_clear (s := s) (pk := [39, 40]) h20 rfl rfl) rfl) rfl)⟩ ?_
        rintro s ⟨h2, h4, h5, h6, h18, h19, h20⟩
        refine .nbk ?_
        refine .nsq ?_
        refine run_reg ?_
        refine e_end ?_
        refine g_v1 (t := 20) (u := (.int .i64 t20_9)) (.int .i64 (w64 (t20_9 + 1))) h20 rfl rfl ?_
        refine g_v1 (t := 41) (u := (.int .i64 (w64 (t20_9 + 1)))) (.int .i64 (w64 (t20_9 + 1))) rfl rfl rfl ?_
        refine g_end ?_
        refine e_end ?_
        refine renew [(2, (.ref (.bx 2) 0 [] (.agg [(Enc.enc (w_1.a : List Int))]))), (4, (.sl .nl (Enc.shp (Int × Int)) 0 [])), (5, (.bool false)), (6, (encO (.at 6 []) (.of (ap_17 : List (Int × Int))))), (18, (Enc.enc (program_2 : List Int))), (19, (.int .i64 (program_2.length : Int))), (20, (.int .i64 (w64 (t20_9 + 1))))] ⟨h2, h4, h5, h6, h18, h19, rfl⟩ ?_
        rintro s ⟨h2, h4, h5, h6, h18, h19, h20⟩
        refine .nlp ?_
        exact ih ap_17 (w64 (t20_9 + 1)) _ ⟨h2, h4, h5, h6, h18, h19, h20⟩ h
    · refine .exit ?_
      refine .esq ?_
      refine .elp ?_
      refine .ebk ?_
      refine .nsq ?_
      refine .seq ?_
      refine run_reg ?_
      refine e_end ?_
      refine g_v1 (t := 6) (u := (encO (.at 6 []) (.of (states_8 : List (Int × Int))))) (encO (.at 6 []) (.of (states_8 : List (Int × Int)))) h6 rfl rfl ?_
      refine g_v1 (t := 42) (u := (encO (.at 6 []) (.of (states_8 : List (Int × Int))))) (encO (.at 6 []) (.of (states_8 : List (Int × Int)))) rfl rfl rfl ?_
      refine g_v0 (.bool true) rfl rfl ?_
      refine g_end ?_
      refine e_home (r := 6) (x := 4) (v := (encO (.at 6 []) (.of (states_8 : List (Int × Int))))) (by exact rfl) rfl (fun s_16 hg_16 => ?_)
      refine e_end ?_
      refine renew [(4, (encO (.at 4 []) (.of (states_8 : List (Int × Int))))), (5, (.bool true))] ⟨(hg_16 4 (encO (.at 6 []) (.of (states_8 : List (Int × Int)))) (encO (.at 4 []) (.of (states_8 : List (Int × Int)))) rfl (map_encO (r := 6) (p := []) rfl rfl)), (hg_16 5 (.bool true) (.bool true) rfl rfl)⟩ ?_
      rintro s ⟨h4, h5⟩
      refine .nsq ?_
      refine .ret ?_
      have hr := Option.some.inj h
      subst hr
      exact rrB (res_tmp h4) (res_tmp h5) (fin_ret1 (fin_tup (fins_cons (fin_own (o := .of states_8)) (fins_cons (fin_enc (x := (true : Bool))) fins_nil))))
def i_net_runProgram (F : Nat) (w_1 : (S1 (List Int))) (program_2 : (List Int)) : Option ((List (Int × Int)) × Bool) :=
  bif decide ((program_2.length : Int) > 40) then
    some ([], false)
  else
    (i_net_all F w_1).bind fun r_3 =>
    i_net_runProgram_l1 F w_1 program_2 F [(0, r_3)] 0
theorem t91 (H : H91 D σ F) (w_1 : (S1 (List Int))) (program_2 : (List Int)) (s : Nat → V) (hs : Facts [(0, (.agg [(Enc.enc (w_1.a : List Int))])), (1, (Enc.enc (program_2 : List Int)))] s) (h : i_net_runProgram F w_1 program_2 = some r) : Run D σ (R91 r) (.run A91 []) s := by
  unfold i_net_runProgram at h
  obtain ⟨h0, h1⟩ := hs
  refine .seq ?_
  refine run_reg ?_
  refine e_clr ?_
  refine e_end ?_
  refine g_box (.agg [(Enc.enc (w_1.a : List Int))]) (rd_of (keep_clear (s := s) (pk := [2]) h0 rfl (map_agg (maps_cons (Enc.map_enc _ (w_1.a : List Int)) maps_nil))) rfl) (gone_clear (s := s) (pk := [2]) (t := 2) rfl) rfl ?_
  refine g_v0 (.sl .nl (Enc.shp (Int × Int)) 0 []) rfl rfl ?_
  refine g_v0 (.bool false) rfl rfl ?_
  refine g_end ?_
  refine e_end ?_
  refine renew [(1, (Enc.enc (program_2 : List Int))), (2, (.ref (.bx 2) 0 [] (.agg [(Enc.enc (w_1.a : List Int))]))), (4, (.sl .nl (Enc.shp (Int × Int)) 0 [])), (5, (.bool false))] ⟨(keep_clear (s := s) (pk := [2]) h1 rfl (Enc.map_enc _ (program_2 : List Int))), rfl, rfl, rfl⟩ ?_
  rintro s ⟨h1, h2, h4, h5⟩
  refine .nsq ?_
  refine .seq ?_
  refine .seq ?_
  refine run_reg ?_
  refine e_end ?_
  refine g_v1 (t := 1) (u := (Enc.enc (program_2 : List Int))) (Enc.enc (program_2 : List Int)) h1 rfl rfl ?_
  refine g_v (.int .i64 (program_2.length : Int)) (ev_len (xs := program_2) rfl) ?_
  refine g_v1 (t := 12) (u := (.int .i64 (program_2.length : Int))) (.bool (decide ((program_2.length : Int) > 40))) rfl rfl rfl ?_
  refine g_end ?_
  refine e_end ?_
  refine renew [(1, (Enc.enc (program_2 : List Int))), (2, (.ref (.bx 2) 0 [] (.agg [(Enc.enc (w_1.a : List Int))]))), (4, (.sl .nl (Enc.shp (Int × Int)) 0 [])), (5, (.bool false)), (13, (.bool (decide ((program_2.length : Int) > 40))))] ⟨h1, h2, h4, h5, rfl⟩ ?_
  rintro s ⟨h1, h2, h4, h5, h13⟩
  refine .nsq ?_
  refine run_cond (t := decide ((program_2.length : Int) > 40)) h13 h (fun h => ?_) (fun h => ?_)
  · refine .seq ?_
    refine run_reg ?_
    refine e_end ?_
    refine g_v0 (.sl .nl (Enc.shp (Int × Int)) 0 []) rfl rfl ?_
    refine g_v0 (.bool false) rfl rfl ?_
    refine g_end ?_
    refine e_end ?_
    refine renew [(1, (Enc.enc (program_2 : List Int))), (2, (.ref (.bx 2) 0 [] (.agg [(Enc.enc (w_1.a : List Int))]))), (4, (.sl .nl (Enc.shp (Int × Int)) 0 [])), (5, (.bool false))] ⟨h1, h2, rfl, rfl⟩ ?_
    rintro s ⟨h1, h2, h4, h5⟩
    refine .nsq ?_
    refine .ret ?_
    have hr := Option.some.inj h
    subst hr
    exact rrB (res_tmp h4) (res_tmp h5) (fin_ret1 (fin_tup (fins_cons (fin_own (o := (.nil : NL (Int × Int))) (t := .nl)) (fins_cons (fin_enc (x := (false : Bool))) fins_nil))))
  · refine .skip ?_
    refine .nsq ?_
    refine .seq ?_
    refine run_reg ?_
    refine e_clr ?_
    refine e_end ?_
    refine g_v1 (t := 2) (u := (.ref (.bx 2) 0 [] (.agg [(Enc.enc (w_1.a : List Int))]))) (.agg [(Enc.enc (w_1.a : List Int))]) (keep_clear (s := s) (pk := [17]) h2 rfl (map_bx rfl (map_agg (maps_cons (Enc.map_enc _ (w_1.a : List Int)) maps_nil)))) rfl rfl ?_
    obtain ⟨r_3, E_r_3, h⟩ := bind_some h
    refine g_call (m := 0) (al := false) (r := (Enc.enc (r_3 : Int))) [Enc.enc (w_1 : (S1 (List Int)))] (ta_cons (v := (.agg [(Enc.enc (w_1.a : List Int))])) rfl rfl (Enc.erase_enc (w_1 : (S1 (List Int)))) ta_nil) (H.c68 _ _ E_r_3) H.g68 rfl rfl rfl rfl ?_
    refine g_v1 (t := 15) (u := (.int .i64 r_3)) (.agg [(.int .i64 0), (.int .i64 r_3)]) rfl rfl rfl ?_
    refine g_litL [(16, (.agg [(.int .i64 0), (.int .i64 r_3)]))] [Enc.enc ((0, r_3) : (Int × Int))] rfl rfl rfl (gone_clear (s := s) (pk := [17]) (t := 17) rfl) ?_
    refine g_v1 (t := 17) (u := (encO (.at 17 []) (.of ([(0, r_3)] : List (Int × Int))))) (encO (.at 17 []) (.of ([(0, r_3)] : List (Int × Int)))) rfl rfl rfl ?_
    refine g_end ?_
    refine e_home (r := 17) (x := 6) (v := (encO (.at 17 []) (.of ([(0, r_3)] : List (Int × Int))))) (by exact rfl) rfl (fun s_3 hg_3 => ?_)
    refine e_end ?_
    refine renew [(1, (Enc.enc (program_2 : List Int))), (2, (.ref (.bx 2) 0 [] (.agg [(Enc.enc (w_1.a : List Int))]))), (4, (.sl .nl (Enc.shp (Int × Int)) 0 [])), (5, (.bool false)), (6, (encO (.at 6 []) (.of ([(0, r_3)] : List (Int × Int)))))] ⟨(hg_3 1 (Enc.enc (program_2 : List Int)) (Enc.enc (program_2 : List Int)) (keep_clear (s := s) (pk := [17]) h1 rfl (Enc.map_enc _ (program_2 : List Int))) (Enc.map_enc _ (program_2 : List Int))), (hg_3 2 (.ref (.bx 2) 0 [] (.agg [(Enc.enc (w_1.a : List Int))])) (.ref (.bx 2) 0 [] (.agg [(Enc.enc (w_1.a : List Int))])) (keep_clear (s := s) (pk := [17]) h2 rfl (map_bx rfl (map_agg (maps_cons (Enc.map_enc _ (w_1.a : List Int)) maps_nil)))) (map_bx rfl (map_agg (maps_cons (Enc.map_enc _ (w_1.a : List Int)) maps_nil)))), (hg_3 4 (.sl .nl (Enc.shp (Int × Int)) 0 []) (.sl .nl (Enc.shp (Int × Int)) 0 []) (keep_clear (s := s) (pk := [17]) h4 rfl rfl) rfl), (hg_3 5 (.bool false) (.bool false) (keep_clear (s := s) (pk := [17]) h5 rfl rfl) rfl), (hg_3 6 (encO (.at 17 []) (.of ([(0, r_3)] : List (Int × Int)))) (encO (.at 6 []) (.of ([(0, r_3)] : List (Int × Int)))) rfl (map_encO (r := 17) (p := []) rfl rfl))⟩ ?_
    rintro s ⟨h1, h2, h4, h5, h6⟩
    refine .nsq ?_
    refine .seq ?_
    refine .seq ?_
    refine run_reg ?_
    refine e_end ?_
    refine g_v1 (t := 1) (u := (Enc.enc (program_2 : List Int))) (Enc.enc (program_2 : List Int)) h1 rfl rfl ?_
    refine g_v (.int .i64 (program_2.length : Int)) (ev_len (xs := program_2) rfl) ?_
    refine g_v0 (.int .i64 0) rfl rfl ?_
    refine g_end ?_
    refine e_end ?_
    refine renew [(2, (.ref (.bx 2) 0 [] (.agg [(Enc.enc (w_1.a : List Int))]))), (4, (.sl .nl (Enc.shp (Int × Int)) 0 [])), (5, (.bool false)), (6, (encO (.at 6 []) (.of ([(0, r_3)] : List (Int × Int))))), (18, (Enc.enc (program_2 : List Int))), (19, (.int .i64 (program_2.length : Int))), (20, (.int .i64 0))] ⟨h2, h4, h5, h6, rfl, rfl, rfl⟩ ?_
    rintro s ⟨h2, h4, h5, h6, h18, h19, h20⟩
    refine .nsq ?_
    refine .block ?_
    refine .loop ?_
    exact t_f91_l1 H w_1 program_2 F [(0, r_3)] 0 _ ⟨h2, h4, h5, h6, h18, h19, h20⟩ h
end
def e91 (F : Nat) : Ent := ⟨91, dn2 (i_net_runProgram F) (fun (r : ((List (Int × Int)) × Bool)) => (.tup [Enc.enc (r.1 : (List (Int × Int))), Enc.enc (r.2 : Bool)])), 0, true⟩
theorem o91 {D : Den} {σ : Sig} {F : Nat} (hF : Fits2 Try.prog D σ) (H : H91 D σ F) : (e91 F).Ok Try.prog := by
  refine ⟨fun args r h => ?_, ⟨Try.f91, Try.func91, rfl, rfl⟩⟩
  obtain ⟨x0, x1, y, rfl, hy, rfl⟩ := dn2_open h
  exact contract_run hF (by kernel_rfl) Try.func91 rfl c91 (show 2 ≤ Try.f91.ntmps by decide) (t91 H x0 x1 _ ⟨rfl, rfl⟩ hy)
/- loop.example/g01109/impl.IsProgram -/
def A39_2 : AC := (AC.cond (O.t 10) (AC.seq (AC.reg [] [(I.mk (some 4) none false (X.v (A.mov (O.k (V.bool false))))), (I.mk (some 5) none false (X.v (A.mov (O.k (V.bool false)))))] []) AC.ret) AC.skip)
def A39_4 : AC := (AC.seq (AC.reg [] [(I.mk (some 18) none false (X.v (A.mov (O.t 7)))), (I.mk (some 4) none false (X.v (A.mov (O.t 18)))), (I.mk (some 5) none false (X.v (A.mov (O.k (V.bool true)))))] []) AC.ret)
def A39_3 : AC := (AC.seq (AC.reg [] [(I.mk (some 12) none false (X.v (A.load (Sh.ag [Sh.s, Sh.p]) (O.t 2)))), (I.mk (some 13) none false (X.call (O.k (V.fn 55 [] [])) [(O.t 12)])), (I.mk (some 14) none false (X.v (A.mov (O.t 1)))), (I.mk (some 15) none false (X.call (O.k (V.fn 91 [] [])) [(O.t 13), (O.t 14)])), (I.mk (some 11) none false (X.v (A.mov (O.t 15)))), (I.mk (some 16) none false (X.v (A.ext (O.t 11) 0))), (I.mk (some 17) none false (X.v (A.extS (O.t 11) 1))), (I.mk (some 6) none false (X.v (A.mov (O.t 16)))), (I.mk (some 7) none false (X.v (A.mov (O.t 17))))] []) A39_4)
def A39_1 : AC := (AC.seq (AC.seq (AC.reg [] [(I.mk (some 8) none false (X.v (A.load (Sh.ag [Sh.s, Sh.p]) (O.t 2)))), (I.mk (some 9) none false (X.call (O.k (V.fn 50 [] [])) [(O.t 8)])), (I.mk (some 10) none false (X.v (A.un UnOp.not (O.t 9))))] []) A39_2) A39_3)
def A39 : AC := (AC.seq (AC.reg [.clr [2]] [(I.mk (some 2) none false (X.box (O.t 0))), (I.mk (some 4) none false (X.v (A.mov (O.k (V.bool false))))), (I.mk (some 5) none false (X.v (A.mov (O.k (V.bool false)))))] []) A39_1)
def an39 : List An := [{ id := 0, pre := [.clr [2]], ep := [], lin := [], sp := [] }]
theorem c39 : cC Try.prog Try.f39.ntmps an39 (Try.f39.body.getD .skip) = some A39 := by kernel_rfl
structure H39 (D : Den) (σ : Sig) (F : Nat) : Prop where
  c50 : ∀ x0 r, i_IsGraph F x0 = some r → D 50 [Enc.enc x0] = some (Enc.enc (r : Bool))
  g50 : σ 50 = some (0, false)
  c55 : ∀ x0 r, i_netOf F x0 = some r → D 55 [Enc.enc x0] = some (Enc.enc (r : (S1 (List Int))))
  g55 : σ 55 = some (0, true)
  c91 : ∀ x0 x1 r, i_net_runProgram F x0 x1 = some r → D 91 [Enc.enc x0, Enc.enc x1] = some (.tup [Enc.enc (r.1 : (List (Int × Int))), Enc.enc (r.2 : Bool)])
  g91 : σ 91 = some (0, true)
abbrev R39 (r : (Bool × Bool)) : (Nat → V) → Prop := RR Try.prog [.tmp 4, .tmp 5] 0 false (.tup [Enc.enc (r.1 : Bool), Enc.enc (r.2 : Bool)])
section
variable {D : Den} {σ : Sig} {F : Nat} {r : (Bool × Bool)}
def i_IsProgram (F : Nat) (g_1 : (Int × (List (Int × Int)))) (program_2 : (List Int)) : Option (Bool × Bool) :=
  (i_IsGraph F g_1).bind fun r_3 =>
  bif (!r_3) then
    some (false, false)
  else
    (i_netOf F g_1).bind fun r_4 =>
    (i_net_runProgram F r_4 program_2).bind fun r_5 =>
    some (r_5.2, true)
theorem t39 (H : H39 D σ F) (g_1 : (Int × (List (Int × Int)))) (program_2 : (List Int)) (s : Nat → V) (hs : Facts [(0, (.agg [(.int .i64 g_1.1), (Enc.enc (g_1.2 : List (Int × Int)))])), (1, (Enc.enc (program_2 : List Int)))] s) (h : i_IsProgram F g_1 program_2 = some r) : Run D σ (R39 r) (.run A39 []) s := by
  unfold i_IsProgram at h
  obtain ⟨h0, h1⟩ := hs
  refine .seq ?_
  refine run_reg ?_
  refine e_clr ?_
  refine e_end ?_
  refine g_box (.agg [(.int .i64 g_1.1), (Enc.enc (g_1.2 : List (Int × Int)))]) (rd_of (keep_clear (s := s) (pk := [2]) h0 rfl (map_agg (maps_cons rfl (maps_cons (Enc.map_enc _ (g_1.2 : List (Int × Int))) maps_nil)))) rfl) (gone_clear (s := s) (pk := [2]) (t := 2) rfl) rfl ?_
  refine g_v0 (.bool false) rfl rfl ?_
  refine g_v0 (.bool false) rfl rfl ?_
  refine g_end ?_
  refine e_end ?_
  refine renew [(1, (Enc.enc (program_2 : List Int))), (2, (.ref (.bx 2) 0 [] (.agg [(.int .i64 g_1.1), (Enc.enc (g_1.2 : List (Int × Int)))]))), (4, (.bool false)), (5, (.bool false))] ⟨(keep_clear (s := s) (pk := [2]) h1 rfl (Enc.map_enc _ (program_2 : List Int))), rfl, rfl, rfl⟩ ?_
  rintro s ⟨h1, h2, h4, h5⟩
  refine .nsq ?_
  refine .seq ?_
  refine .seq ?_
  refine run_reg ?_
  refine e_end ?_
  refine g_v1 (t := 2) (u := (.ref (.bx 2) 0 [] (.agg [(.int .i64 g_1.1), (Enc.enc (g_1.2 : List (Int × Int)))]))) (.agg [(.int .i64 g_1.1), (Enc.enc (g_1.2 : List (Int × Int)))]) h2 rfl rfl ?_
  obtain ⟨r_3, E_r_3, h⟩ := bind_some h
  refine g_call (m := 0) (al := false) (r := (Enc.enc (r_3 : Bool))) [Enc.enc (g_1 : (Int × (List (Int × Int))))] (ta_cons (v := (.agg [(.int .i64 g_1.1), (Enc.enc (g_1.2 : List (Int × Int)))])) rfl rfl (Enc.erase_enc (g_1 : (Int × (List (Int × Int))))) ta_nil) (H.c50 _ _ E_r_3) H.g50 rfl rfl rfl rfl ?_
  refine g_v1 (t := 9) (u := (.bool r_3)) (.bool (!r_3)) rfl rfl rfl ?_
  refine g_end ?_
  refine e_end ?_
  refine renew [(1, (Enc.enc (program_2 : List Int))), (2, (.ref (.bx 2) 0 [] (.agg [(.int .i64 g_1.1), (Enc.enc (g_1.2 : List (Int × Int)))]))), (4, (.bool false)), (5, (.bool false)), (10, (.bool (!r_3)))] ⟨h1, h2, h4, h5, rfl⟩ ?_
  rintro s ⟨h1, h2, h4, h5, h10⟩
  refine .nsq ?_
  refine run_cond (t := (!r_3)) h10 h (fun h => ?_) (fun h => ?_)
  · refine .seq ?_
    refine run_reg ?_
    refine e_end ?_
    refine g_v0 (.bool false) rfl rfl ?_
    refine g_v0 (.bool false) rfl rfl ?_
    refine g_end ?_
    refine e_end ?_
    refine renew [(1, (Enc.enc (program_2 : List Int))), (2, (.ref (.bx 2) 0 [] (.agg [(.int .i64 g_1.1), (Enc.enc (g_1.2 : List (Int × Int)))]))), (4, (.bool false)), (5, (.bool false))] ⟨h1, h2, rfl, rfl⟩ ?_
    rintro s ⟨h1, h2, h4, h5⟩
    refine .nsq ?_
    refine .ret ?_
    have hr := Option.some.inj h
    subst hr
    exact rrB (res_tmp h4) (res_tmp h5) rfl
  · refine .skip ?_
    refine .nsq ?_
    refine .seq ?_
    refine run_reg ?_
    refine e_end ?_
    refine g_v1 (t := 2) (u := (.ref (.bx 2) 0 [] (.agg [(.int .i64 g_1.1), (Enc.enc (g_1.2 : List (Int × Int)))]))) (.agg [(.int .i64 g_1.1), (Enc.enc (g_1.2 : List (Int × Int)))]) h2 rfl rfl ?_
    obtain ⟨r_4, E_r_4, h⟩ := bind_some h
    refine g_call (m := 0) (al := true) (r := (Enc.enc (r_4 : (S1 (List Int))))) [Enc.enc (g_1 : (Int × (List (Int × Int))))] (ta_cons (v := (.agg [(.int .i64 g_1.1), (Enc.enc (g_1.2 : List (Int × Int)))])) rfl rfl (Enc.erase_enc (g_1 : (Int × (List (Int × Int))))) ta_nil) (H.c55 _ _ E_r_4) H.g55 (hal_of (ht_cons (v := (.agg [(.int .i64 g_1.1), (Enc.enc (g_1.2 : List (Int × Int)))])) rfl rfl rfl ht_nil)) rfl rfl rfl ?_
    refine g_v1 (t := 1) (u := (Enc.enc (program_2 : List Int))) (Enc.enc (program_2 : List Int)) h1 rfl rfl ?_
    obtain ⟨r_5, E_r_5, h⟩ := bind_some h
    refine g_call (m := 0) (al := true) (r := (.tup [Enc.enc (r_5.1 : (List (Int × Int))), Enc.enc (r_5.2 : Bool)])) [Enc.enc (r_4 : (S1 (List Int))), Enc.enc (program_2 : (List Int))] (ta_cons (v := (.agg [(Enc.enc (r_4.a : List Int))])) rfl rfl (Enc.erase_enc (r_4 : (S1 (List Int)))) (ta_cons (v := (Enc.enc (program_2 : List Int))) rfl rfl (Enc.erase_enc (program_2 : (List Int))) ta_nil)) (H.c91 _ _ _ E_r_5) H.g91 (hal_of (ht_cons (v := (.agg [(Enc.enc (r_4.a : List Int))])) rfl rfl rfl (ht_cons (v := (Enc.enc (program_2 : List Int))) rfl rfl rfl ht_nil))) rfl rfl rfl ?_
    refine g_v1 (t := 15) (u := (.tup [(Enc.enc (r_5.1 : List (Int × Int))), (.bool r_5.2)])) (.tup [(Enc.enc (r_5.1 : List (Int × Int))), (.bool r_5.2)]) rfl rfl rfl ?_
    refine g_v1 (t := 11) (u := (.tup [(Enc.enc (r_5.1 : List (Int × Int))), (.bool r_5.2)])) (Enc.enc (r_5.1 : List (Int × Int))) rfl rfl rfl ?_
    refine g_v1 (t := 11) (u := (.tup [(Enc.enc (r_5.1 : List (Int × Int))), (.bool r_5.2)])) (.bool r_5.2) rfl rfl rfl ?_
    refine g_v1 (t := 16) (u := (Enc.enc (r_5.1 : List (Int × Int)))) (Enc.enc (r_5.1 : List (Int × Int))) rfl rfl rfl ?_
    refine g_v1 (t := 17) (u := (.bool r_5.2)) (.bool r_5.2) rfl rfl rfl ?_
    refine g_end ?_
    refine e_end ?_
    refine renew [(4, (.bool false)), (5, (.bool false)), (7, (.bool r_5.2))] ⟨h4, h5, rfl⟩ ?_
    rintro s ⟨h4, h5, h7⟩
    refine .nsq ?_
    refine .seq ?_
    refine run_reg ?_
    refine e_end ?_
    refine g_v1 (t := 7) (u := (.bool r_5.2)) (.bool r_5.2) h7 rfl rfl ?_
    refine g_v1 (t := 18) (u := (.bool r_5.2)) (.bool r_5.2) rfl rfl rfl ?_
    refine g_v0 (.bool true) rfl rfl ?_
    refine g_end ?_
    refine e_end ?_
    refine renew [(4, (.bool r_5.2)), (5, (.bool true))] ⟨rfl, rfl⟩ ?_
    rintro s ⟨h4, h5⟩
    refine .nsq ?_
    refine .ret ?_
    have hr := Option.some.inj h
    subst hr
    exact rrB (res_tmp h4) (res_tmp h5) rfl
end
def e39 (F : Nat) : Ent := ⟨39, dn2 (i_IsProgram F) (fun (r : (Bool × Bool)) => (.tup [Enc.enc (r.1 : Bool), Enc.enc (r.2 : Bool)])), 0, false⟩
theorem o39 {D : Den} {σ : Sig} {F : Nat} (hF : Fits2 Try.prog D σ) (H : H39 D σ F) : (e39 F).Ok Try.prog := by
  refine ⟨fun args r h => ?_, ⟨Try.f39, Try.func39, rfl, rfl⟩⟩
  obtain ⟨x0, x1, y, rfl, hy, rfl⟩ := dn2_open h
  exact contract_run hF (by kernel_rfl) Try.func39 rfl c39 (show 2 ≤ Try.f39.ntmps by decide) (t39 H x0 x1 _ ⟨rfl, rfl⟩ hy)
/- loop.example/g01109/laws.eqIntA2 -/
def A104_2 : AC := (AC.cond (O.t 7) AC.skip (AC.exit 0))
def A104_4 : AC := (AC.cond (O.t 16) (AC.seq (AC.reg [] [(I.mk (some 4) none false (X.v (A.mov (O.k (V.bool false)))))] []) AC.ret) AC.skip)
def A104_5 : AC := (AC.reg [] [(I.mk (some 8) none false (X.v (A.mov (O.t 5)))), (I.mk (some 9) none false (X.v (A.bin BinOp.add (O.t 8) (O.k (V.int IntKind.i64 (Int.ofNat 1)))))), (I.mk (some 5) none false (X.v (A.mov (O.t 9))))] [])
def A104_3 : AC := (AC.seq (AC.block 1 (AC.seq (AC.reg [] [(I.mk (some 10) none false (X.v (A.mov (O.t 5)))), (I.mk (some 11) none false (X.v (A.idxA (O.t 2) (O.t 10) 2 1))), (I.mk (some 12) none false (X.v (A.load Sh.s (O.t 11)))), (I.mk (some 13) none false (X.v (A.mov (O.t 5)))), (I.mk (some 14) none false (X.v (A.idxA (O.t 3) (O.t 13) 2 1))), (I.mk (some 15) none false (X.v (A.load Sh.s (O.t 14)))), (I.mk (some 16) none false (X.v (A.bin BinOp.neq (O.t 12) (O.t 15))))] []) A104_4)) A104_5)
def A104_1 : AC := (AC.seq (AC.seq (AC.reg [] [(I.mk (some 6) none false (X.v (A.mov (O.t 5)))), (I.mk (some 7) none false (X.v (A.bin BinOp.lss (O.t 6) (O.k (V.int IntKind.i64 (Int.ofNat 2))))))] []) A104_2) A104_3)
def A104_6 : AC := (AC.seq (AC.reg [] [(I.mk (some 4) none false (X.v (A.mov (O.k (V.bool true)))))] []) AC.ret)
def A104_8 : AC := (AC.block 0 (AC.loop A104_1))
def A104_7 : AC := (AC.seq (AC.seq (AC.reg [] [(I.mk (some 5) none false (X.v (A.mov (O.k (V.int IntKind.i64 (Int.ofNat 0))))))] []) A104_8) A104_6)
def A104 : AC := (AC.seq (AC.reg [.clr [2, 3]] [(I.mk (some 2) none false (X.box (O.t 0))), (I.mk (some 3) none false (X.box (O.t 1))), (I.mk (some 4) none false (X.v (A.mov (O.k (V.bool false)))))] []) A104_7)
def an104 : List An := [{ id := 0, pre := [.clr [2, 3]], ep := [], lin := [], sp := [] }]
theorem c104 : cC Try.prog Try.f104.ntmps an104 (Try.f104.body.getD .skip) = some A104 := by kernel_rfl
structure H104 (D : Den) (σ : Sig) (F : Nat) : Prop where
  mk ::
abbrev R104 (r : Bool) : (Nat → V) → Prop := RR Try.prog [.tmp 4] 0 false (Enc.enc (r : Bool))
section
variable {D : Den} {σ : Sig} {F : Nat} {r : Bool}
def w_eqIntA2_l1 (F : Nat) (a_1 : (Int × Int)) (b_2 : (Int × Int))  : Nat → Int → Option Bool
  | 0, _ => none
  | k + 1, i_3 =>
    bif decide (i_3 < 2) then
      (idx [a_1.1, a_1.2] i_3).bind fun e_6 =>
      (idx [b_2.1, b_2.2] i_3).bind fun e_7 =>
      bif (e_6 != e_7) then
        some false
      else
        (w_eqIntA2_l1 F a_1 b_2 k) (w64 (i_3 + 1))
    else
      some true
theorem t_f104_l1 (H : H104 D σ F) (a_1 : (Int × Int)) (b_2 : (Int × Int))  : ∀ (k : Nat) (i_3 : Int) (s : Nat → V), Facts [(2, (.ref (.bx 2) 0 [] (.agg [(.int .i64 a_1.1), (.int .i64 a_1.2)]))), (3, (.ref (.bx 3) 0 [] (.agg [(.int .i64 b_2.1), (.int .i64 b_2.2)]))), (4, (.bool false)), (5, (.int .i64 i_3))] s → w_eqIntA2_l1 F a_1 b_2 k i_3 = some r → Run D σ (R104 r) (.run A104_1 [.lp A104_1, .bk 0, .sq A104_6]) s := by
  intro k
  induction k with
  | zero => intro i_3 s _ h; exact nomatch (h : (none : Option _) = some r)
  | succ k ih =>
    intro i_3 s hs h
    rw [w_eqIntA2_l1] at h
    obtain ⟨h2, h3, h4, h5⟩ := hs
    refine .seq ?_
    refine .seq ?_
    refine run_reg ?_
    refine e_end ?_
    refine g_v1 (t := 5) (u := (.int .i64 i_3)) (.int .i64 i_3) h5 rfl rfl ?_
    refine g_v1 (t := 6) (u := (.int .i64 i_3)) (.bool (decide (i_3 < 2))) rfl rfl rfl ?_
    refine g_end ?_
    refine e_end ?_
    refine renew [(2, (.ref (.bx 2) 0 [] (.agg [(.int .i64 a_1.1), (.int .i64 a_1.2)]))), (3, (.ref (.bx 3) 0 [] (.agg [(.int .i64 b_2.1), (.int .i64 b_2.2)]))), (4, (.bool false)), (5, (.int .i64 i_3)), (7, (.bool (decide (i_3 < 2))))] ⟨h2, h3, h4, h5, rfl⟩ ?_
    rintro s ⟨h2, h3, h4, h5, h7⟩
    refine .nsq ?_
    refine run_cond (t := decide (i_3 < 2)) h7 h (fun h => ?_) (fun h => ?_)
    · refine .skip ?_
      refine .nsq ?_
      refine .seq ?_
      refine .block ?_
      refine .seq ?_
      refine run_reg ?_
      refine e_end ?_
      refine g_v1 (t := 5) (u := (.int .i64 i_3)) (.int .i64 i_3) h5 rfl rfl ?_
      obtain ⟨e_6, E_e_6, h⟩ := bind_some h
      refine g_v (.ref (.bx 2) 0 [i_3.toNat] (.int .i64 e_6)) (ev_idxA (xs := [a_1.1, a_1.2]) (a := e_6) (n := i_3) (q := []) h2 rfl E_e_6 rfl rfl rfl) ?_
      refine g_v1 (t := 11) (u := (.ref (.bx 2) 0 [i_3.toNat] (.int .i64 e_6))) (.int .i64 e_6) rfl rfl rfl ?_
      refine g_v1 (t := 5) (u := (.int .i64 i_3)) (.int .i64 i_3) h5 rfl rfl ?_
      obtain ⟨e_7, E_e_7, h⟩ := bind_some h
      refine g_v (.ref (.bx 3) 0 [i_3.toNat] (.int .i64 e_7)) (ev_idxA (xs := [b_2.1, b_2.2]) (a := e_7) (n := i_3) (q := []) h3 rfl E_e_7 rfl rfl rfl) ?_
      refine g_v1 (t := 14) (u := (.ref (.bx 3) 0 [i_3.toNat] (.int .i64 e_7))) (.int .i64 e_7) rfl rfl rfl ?_
      refine g_v2 (t1 := 12) (t2 := 15) (u1 := (.int .i64 e_6)) (u2 := (.int .i64 e_7)) (.bool (e_6 != e_7)) rfl rfl rfl rfl ?_
      refine g_end ?_
      refine e_end ?_
      refine renew [(2, (.ref (.bx 2) 0 [] (.agg [(.int .i64 a_1.1), (.int .i64 a_1.2)]))), (3, (.ref (.bx 3) 0 [] (.agg [(.int .i64 b_2.1), (.int .i64 b_2.2)]))), (4, (.bool false)), (5, (.int .i64 i_3)), (16, (.bool (e_6 != e_7)))] ⟨h2, h3, h4, h5, rfl⟩ ?_
      rintro s ⟨h2, h3, h4, h5, h16⟩
      refine .nsq ?_
      refine run_cond (t := (e_6 != e_7)) h16 h (fun h => ?_) (fun h => ?_)
      · refine .seq ?_
        refine run_reg ?_
        refine e_end ?_
        refine g_v0 (.bool false) rfl rfl ?_
        refine g_end ?_
        refine e_end ?_
        refine renew [(2, (.ref (.bx 2) 0 [] (.agg [(.int .i64 a_1.1), (.int .i64 a_1.2)]))), (3, (.ref (.bx 3) 0 [] (.agg [(.int .i64 b_2.1), (.int .i64 b_2.2)]))), (4, (.bool false)), (5, (.int .i64 i_3))] ⟨h2, h3, rfl, h5⟩ ?_
        rintro s ⟨h2, h3, h4, h5⟩
        refine .nsq ?_
        refine .ret ?_
        have hr := Option.some.inj h
        subst hr
        exact rrA (res_tmp h4) rfl
      · refine .skip ?_
        refine .nbk ?_
        refine .nsq ?_
        refine run_reg ?_
        refine e_end ?_
        refine g_v1 (t := 5) (u := (.int .i64 i_3)) (.int .i64 i_3) h5 rfl rfl ?_
        refine g_v1 (t := 8) (u := (.int .i64 i_3)) (.int .i64 (w64 (i_3 + 1))) rfl rfl rfl ?_
        refine g_v1 (t := 9) (u := (.int .i64 (w64 (i_3 + 1)))) (.int .i64 (w64 (i_3 + 1))) rfl rfl rfl ?_
        refine g_end ?_
        refine e_end ?_
        refine renew [(2, (.ref (.bx 2) 0 [] (.agg [(.int .i64 a_1.1), (.int .i64 a_1.2)]))), (3, (.ref (.bx 3) 0 [] (.agg [(.int .i64 b_2.1), (.int .i64 b_2.2)]))), (4, (.bool false)), (5, (.int .i64 (w64 (i_3 + 1))))] ⟨h2, h3, h4, rfl⟩ ?_
        rintro s ⟨h2, h3, h4, h5⟩
        refine .nlp ?_
        exact ih (w64 (i_3 + 1)) _ ⟨h2, h3, h4, h5⟩ h
    · refine .exit ?_
      refine .esq ?_
      refine .elp ?_
      refine .ebk ?_
      refine .nsq ?_
      refine .seq ?_
      refine run_reg ?_
      refine e_end ?_
      refine g_v0 (.bool true) rfl rfl ?_
      refine g_end ?_
      refine e_end ?_
      refine renew [(4, (.bool true))] rfl ?_
      rintro s h4
      refine .nsq ?_
      refine .ret ?_
      have hr := Option.some.inj h
      subst hr
      exact rrA (res_tmp h4) rfl
def w_eqIntA2 (F : Nat) (a_1 : (Int × Int)) (b_2 : (Int × Int)) : Option Bool :=
  w_eqIntA2_l1 F a_1 b_2 F 0
theorem t104 (H : H104 D σ F) (a_1 : (Int × Int)) (b_2 : (Int × Int)) (s : Nat → V) (hs : Facts [(0, (.agg [(.int .i64 a_1.1), (.int .i64 a_1.2)])), (1, (.agg [(.int .i64 b_2.1), (.int .i64 b_2.2)]))] s) (h : w_eqIntA2 F a_1 b_2 = some r) : Run D σ (R104 r) (.run A104 []) s := by
  unfold w_eqIntA2 at h
  obtain ⟨h0, h1⟩ := hs
  refine .seq ?_
  refine run_reg ?_
  refine e_clr ?_
  refine e_end ?_
  refine g_box (.agg [(.int .i64 a_1.1), (.int .i64 a_1.2)]) (rd_of (keep_clear (s := s) (pk := [2, 3]) h0 rfl (map_agg (maps_cons rfl (maps_cons rfl maps_nil)))) rfl) (gone_clear (s := s) (pk := [2, 3]) (t := 2) rfl) rfl ?_
  refine g_box (.agg [(.int .i64 b_2.1), (.int .i64 b_2.2)]) (rd_of (keep_clear (s := s) (pk := [2, 3]) h1 rfl (map_agg (maps_cons rfl (maps_cons rfl maps_nil)))) rfl) (gone_clear (s := s) (pk := [2, 3]) (t := 3) rfl) rfl ?_
  refine g_v0 (.bool false) rfl rfl ?_
  refine g_end ?_
  refine e_end ?_
  refine renew [(2, (.ref (.bx 2) 0 [] (.agg [(.int .i64 a_1.1), (.int .i64 a_1.2)]))), (3, (.ref (.bx 3) 0 [] (.agg [(.int .i64 b_2.1), (.int .i64 b_2.2)]))), (4, (.bool false))] ⟨rfl, rfl, rfl⟩ ?_
  rintro s ⟨h2, h3, h4⟩
  refine .nsq ?_
  refine .seq ?_
  refine .seq ?_
  refine run_reg ?_
  refine e_end ?_
  refine g_v0 (.int .i64 0) rfl rfl ?_
  refine g_end ?_
  refine e_end ?_
  refine renew [(2, (.ref (.bx 2) 0 [] (.agg [(.int .i64 a_1.1), (.int .i64 a_1.2)]))), (3, (.ref (.bx 3) 0 [] (.agg [(.int .i64 b_2.1), (.int .i64 b_2.2)]))), (4, (.bool false)), (5, (.int .i64 0))] ⟨h2, h3, h4, rfl⟩ ?_
  rintro s ⟨h2, h3, h4, h5⟩
  refine .nsq ?_
  refine .block ?_
  refine .loop ?_
  exact t_f104_l1 H a_1 b_2 F 0 _ ⟨h2, h3, h4, h5⟩ h
end
def e104 (F : Nat) : Ent := ⟨104, dn2 (w_eqIntA2 F) (fun (r : Bool) => (Enc.enc (r : Bool))), 0, false⟩
theorem o104 {D : Den} {σ : Sig} {F : Nat} (hF : Fits2 Try.prog D σ) (H : H104 D σ F) : (e104 F).Ok Try.prog := by
  refine ⟨fun args r h => ?_, ⟨Try.f104, Try.func104, rfl, rfl⟩⟩
  obtain ⟨x0, x1, y, rfl, hy, rfl⟩ := dn2_open h
  exact contract_run hF (by kernel_rfl) Try.func104 rfl c104 (show 2 ≤ Try.f104.ntmps by decide) (t104 H x0 x1 _ ⟨rfl, rfl⟩ hy)
/- loop.example/g01109/laws.eqIntA2S -/
def A53_2 : AC := (AC.cond (O.t 14) AC.skip (AC.exit 0))
def A53_4 : AC := (AC.cond (O.t 26) (AC.seq (AC.reg [] [(I.mk (some 4) none false (X.v (A.mov (O.k (V.bool false)))))] []) AC.ret) AC.skip)
def A53_5 : AC := (AC.reg [] [(I.mk (some 15) none false (X.v (A.mov (O.t 5)))), (I.mk (some 16) none false (X.v (A.bin BinOp.add (O.t 15) (O.k (V.int IntKind.i64 (Int.ofNat 1)))))), (I.mk (some 5) none false (X.v (A.mov (O.t 16))))] [])
def A53_3 : AC := (AC.seq (AC.block 1 (AC.seq (AC.reg [] [(I.mk (some 17) none false (X.v (A.mov (O.t 0)))), (I.mk (some 18) none false (X.v (A.mov (O.t 5)))), (I.mk (some 19) none false (X.v (A.idx (O.t 17) (O.t 18) 2))), (I.mk (some 20) none false (X.v (A.load (Sh.ag [Sh.s, Sh.s]) (O.t 19)))), (I.mk (some 21) none false (X.v (A.mov (O.t 1)))), (I.mk (some 22) none false (X.v (A.mov (O.t 5)))), (I.mk (some 23) none false (X.v (A.idx (O.t 21) (O.t 22) 2))), (I.mk (some 24) none false (X.v (A.load (Sh.ag [Sh.s, Sh.s]) (O.t 23)))), (I.mk (some 25) none false (X.call (O.k (V.fn 104 [] [])) [(O.t 20), (O.t 24)])), (I.mk (some 26) none false (X.v (A.un UnOp.not (O.t 25))))] []) A53_4)) A53_5)
def A53_1 : AC := (AC.seq (AC.seq (AC.reg [] [(I.mk (some 11) none false (X.v (A.mov (O.t 5)))), (I.mk (some 12) none false (X.v (A.mov (O.t 0)))), (I.mk (some 13) none false (X.v (A.len (O.t 12)))), (I.mk (some 14) none false (X.v (A.bin BinOp.lss (O.t 11) (O.t 13))))] []) A53_2) A53_3)
def A53_6 : AC := (AC.seq (AC.reg [] [(I.mk (some 4) none false (X.v (A.mov (O.k (V.bool true)))))] []) AC.ret)
def A53_8 : AC := (AC.cond (O.t 10) (AC.seq (AC.reg [] [(I.mk (some 4) none false (X.v (A.mov (O.k (V.bool false)))))] []) AC.ret) AC.skip)
def A53_10 : AC := (AC.block 0 (AC.loop A53_1))
def A53_9 : AC := (AC.seq (AC.seq (AC.reg [] [(I.mk (some 5) none false (X.v (A.mov (O.k (V.int IntKind.i64 (Int.ofNat 0))))))] []) A53_10) A53_6)
def A53_7 : AC := (AC.seq (AC.seq (AC.reg [] [(I.mk (some 6) none false (X.v (A.mov (O.t 0)))), (I.mk (some 7) none false (X.v (A.len (O.t 6)))), (I.mk (some 8) none false (X.v (A.mov (O.t 1)))), (I.mk (some 9) none false (X.v (A.len (O.t 8)))), (I.mk (some 10) none false (X.v (A.bin BinOp.neq (O.t 7) (O.t 9))))] []) A53_8) A53_9)
def A53 : AC := (AC.seq (AC.reg [] [(I.mk (some 4) none false (X.v (A.mov (O.k (V.bool false)))))] []) A53_7)
def an53 : List An := []
theorem c53 : cC Try.prog Try.f53.ntmps an53 (Try.f53.body.getD .skip) = some A53 := by kernel_rfl
structure H53 (D : Den) (σ : Sig) (F : Nat) : Prop where
  c104 : ∀ x0 x1 r, w_eqIntA2 F x0 x1 = some r → D 104 [Enc.enc x0, Enc.enc x1] = some (Enc.enc (r : Bool))
  g104 : σ 104 = some (0, false)
abbrev R53 (r : Bool) : (Nat → V) → Prop := RR Try.prog [.tmp 4] 0 false (Enc.enc (r : Bool))
section
variable {D : Den} {σ : Sig} {F : Nat} {r : Bool}
def w_eqIntA2S_l1 (F : Nat) (a_1 : (List (Int × Int))) (b_2 : (List (Int × Int)))  : Nat → Int → Option Bool
  | 0, _ => none
  | k + 1, i_6 =>
    bif decide (i_6 < (a_1.length : Int)) then
      (idx a_1 i_6).bind fun e_10 =>
      (idx b_2 i_6).bind fun e_11 =>
      (w_eqIntA2 F e_10 e_11).bind fun r_12 =>
      bif (!r_12) then
        some false
      else
        (w_eqIntA2S_l1 F a_1 b_2 k) (w64 (i_6 + 1))
    else
      some true
theorem t_f53_l1 (H : H53 D σ F) (a_1 : (List (Int × Int))) (b_2 : (List (Int × Int)))  : ∀ (k : Nat) (i_6 : Int) (s : Nat → V), Facts [(0, (Enc.enc (a_1 : List (Int × Int)))), (1, (Enc.enc (b_2 : List (Int × Int)))), (4, (.bool false)), (5, (.int .i64 i_6))] s → w_eqIntA2S_l1 F a_1 b_2 k i_6 = some r → Run D σ (R53 r) (.run A53_1 [.lp A53_1, .bk 0, .sq A53_6]) s := by
  intro k
  induction k with
  | zero => intro i_6 s _ h; exact nomatch (h : (none : Option _) = some r)
  | succ k ih =>
    intro i_6 s hs h
    rw [w_eqIntA2S_l1] at h
    obtain ⟨h0, h1, h4, h5⟩ := hs
    refine .seq ?_
    refine .seq ?_
    refine run_reg ?_
    refine e_end ?_
    refine g_v1 (t := 5) (u := (.int .i64 i_6)) (.int .i64 i_6) h5 rfl rfl ?_
    refine g_v1 (t := 0) (u := (Enc.enc (a_1 : List (Int × Int)))) (Enc.enc (a_1 : List (Int × Int))) h0 rfl rfl ?_
    refine g_v (.int .i64 (a_1.length : Int)) (ev_len (xs := a_1) rfl) ?_
    refine g_v2 (t1 := 11) (t2 := 13) (u1 := (.int .i64 i_6)) (u2 := (.int .i64 (a_1.length : Int))) (.bool (decide (i_6 < (a_1.length : Int)))) rfl rfl rfl rfl ?_
    refine g_end ?_
    refine e_end ?_
    refine renew [(0, (Enc.enc (a_1 : List (Int × Int)))), (1, (Enc.enc (b_2 : List (Int × Int)))), (4, (.bool false)), (5, (.int .i64 i_6)), (14, (.bool (decide (i_6 < (a_1.length : Int)))))] ⟨h0, h1, h4, h5, rfl⟩ ?_
    rintro s ⟨h0, h1, h4, h5, h14⟩
    refine .nsq ?_
    refine run_cond (t := decide (i_6 < (a_1.length : Int))) h14 h (fun h => ?_) (fun h => ?_)
    · refine .skip ?_
      refine .nsq ?_
      refine .seq ?_
      refine .block ?_
      refine .seq ?_
      refine run_reg ?_
      refine e_end ?_
      refine g_v1 (t := 0) (u := (Enc.enc (a_1 : List (Int × Int)))) (Enc.enc (a_1 : List (Int × Int))) h0 rfl rfl ?_
      refine g_v1 (t := 5) (u := (.int .i64 i_6)) (.int .i64 i_6) h5 rfl rfl ?_
      obtain ⟨e_10, E_e_10, h⟩ := bind_some h
      refine g_v (.ref .sh 0 [] (.agg [(.int .i64 e_10.1), (.int .i64 e_10.2)])) (ev_idx (t := .sh) (lo := 0) (xs := a_1) rfl rfl E_e_10 rfl rfl) ?_
      refine g_v1 (t := 19) (u := (.ref .sh 0 [] (.agg [(.int .i64 e_10.1), (.int .i64 e_10.2)]))) (.agg [(.int .i64 e_10.1), (.int .i64 e_10.2)]) rfl rfl rfl ?_
      refine g_v1 (t := 1) (u := (Enc.enc (b_2 : List (Int × Int)))) (Enc.enc (b_2 : List (Int × Int))) h1 rfl rfl ?_
      refine g_v1 (t := 5) (u := (.int .i64 i_6)) (.int .i64 i_6) h5 rfl rfl ?_
      obtain ⟨e_11, E_e_11, h⟩ := bind_some h
      refine g_v (.ref .sh 0 [] (.agg [(.int .i64 e_11.1), (.int .i64 e_11.2)])) (ev_idx (t := .sh) (lo := 0) (xs := b_2) rfl rfl E_e_11 rfl rfl) ?_
      refine g_v1 (t := 23) (u := (.ref .sh 0 [] (.agg [(.int .i64 e_11.1), (.int .i64 e_11.2)]))) (.agg [(.int .i64 e_11.1), (.int .i64 e_11.2)]) rfl rfl rfl ?_
      obtain ⟨r_12, E_r_12, h⟩ := bind_some h
      refine g_call (m := 0) (al := false) (r := (Enc.enc (r_12 : Bool))) [Enc.enc (e_10 : (Int × Int)), Enc.enc (e_11 : (Int × Int))] (ta_cons (v := (.agg [(.int .i64 e_10.1), (.int .i64 e_10.2)])) rfl rfl (Enc.erase_enc (e_10 : (Int × Int))) (ta_cons (v := (.agg [(.int .i64 e_11.1), (.int .i64 e_11.2)])) rfl rfl (Enc.erase_enc (e_11 : (Int × Int))) ta_nil)) (H.c104 _ _ _ E_r_12) H.g104 rfl rfl rfl rfl ?_
      refine g_v1 (t := 25) (u := (.bool r_12)) (.bool (!r_12)) rfl rfl rfl ?_
      refine g_end ?_
      refine e_end ?_
      refine renew [(0, (Enc.enc (a_1 : List (Int × Int)))), (1, (Enc.enc (b_2 : List (Int × Int)))), (4, (.bool false)), (5, (.int .i64 i_6)), (26, (.bool (!r_12)))] ⟨h0, h1, h4, h5, rfl⟩ ?_
      rintro s ⟨h0, h1, h4, h5, h26⟩
      refine .nsq ?_
      refine run_cond (t := (!r_12)) h26 h (fun h => ?_) (fun h => ?_)
      · refine .seq ?_
        refine run_reg ?_
        refine e_end ?_
        refine g_v0 (.bool false) rfl rfl ?_
        refine g_end ?_
        refine e_end ?_
        refine renew [(0, (Enc.enc (a_1 : List (Int × Int)))), (1, (Enc.enc (b_2 : List (Int × Int)))), (4, (.bool false)), (5, (.int .i64 i_6))] ⟨h0, h1, rfl, h5⟩ ?_
        rintro s ⟨h0, h1, h4, h5⟩
        refine .nsq ?_
        refine .ret ?_
        have hr := Option.some.inj h
        subst hr
        exact rrA (res_tmp h4) rfl
      · refine .skip ?_
        refine .nbk ?_
        refine .nsq ?_
        refine run_reg ?_
        refine e_end ?_
        refine g_v1 (t := 5) (u := (.int .i64 i_6)) (.int .i64 i_6) h5 rfl rfl ?_
        refine g_v1 (t := 15) (u := (.int .i64 i_6)) (.int .i64 (w64 (i_6 + 1))) rfl rfl rfl ?_
        refine g_v1 (t := 16) (u := (.int .i64 (w64 (i_6 + 1)))) (.int .i64 (w64 (i_6 + 1))) rfl rfl rfl ?_
        refine g_end ?_
        refine e_end ?_
        refine renew [(0, (Enc.enc (a_1 : List (Int × Int)))), (1, (Enc.enc (b_2 : List (Int × Int)))), (4, (.bool false)), (5, (.int .i64 (w64 (i_6 + 1))))] ⟨h0, h1, h4, rfl⟩ ?_
        rintro s ⟨h0, h1, h4, h5⟩
        refine .nlp ?_
        exact ih (w64 (i_6 + 1)) _ ⟨h0, h1, h4, h5⟩ h
    · refine .exit ?_
      refine .esq ?_
      refine .elp ?_
      refine .ebk ?_
      refine .nsq ?_
      refine .seq ?_
      refine run_reg ?_
      refine e_end ?_
      refine g_v0 (.bool true) rfl rfl ?_
      refine g_end ?_
      refine e_end ?_
      refine renew [(4, (.bool true))] rfl ?_
      rintro s h4
      refine .nsq ?_
      refine .ret ?_
      have hr := Option.some.inj h
      subst hr
      exact rrA (res_tmp h4) rfl
def w_eqIntA2S (F : Nat) (a_1 : (List (Int × Int))) (b_2 : (List (Int × Int))) : Option Bool :=
  bif ((a_1.length : Int) != (b_2.length : Int)) then
    some false
  else
    w_eqIntA2S_l1 F a_1 b_2 F 0
theorem t53 (H : H53 D σ F) (a_1 : (List (Int × Int))) (b_2 : (List (Int × Int))) (s : Nat → V) (hs : Facts [(0, (Enc.enc (a_1 : List (Int × Int)))), (1, (Enc.enc (b_2 : List (Int × Int))))] s) (h : w_eqIntA2S F a_1 b_2 = some r) : Run D σ (R53 r) (.run A53 []) s := by
  unfold w_eqIntA2S at h
  obtain ⟨h0, h1⟩ := hs
  refine .seq ?_
  refine run_reg ?_
  refine e_end ?_
  refine g_v0 (.bool false) rfl rfl ?_
  refine g_end ?_
  refine e_end ?_
  refine renew [(0, (Enc.enc (a_1 : List (Int × Int)))), (1, (Enc.enc (b_2 : List (Int × Int)))), (4, (.bool false))] ⟨h0, h1, rfl⟩ ?_
  rintro s ⟨h0, h1, h4⟩
  refine .nsq ?_
  refine .seq ?_
  refine .seq ?_
  refine run_reg ?_
  refine e_end ?_
  refine g_v1 (t := 0) (u := (Enc.enc (a_1 : List (Int × Int)))) (Enc.enc (a_1 : List (Int × Int))) h0 rfl rfl ?_
  refine g_v (.int .i64 (a_1.length : Int)) (ev_len (xs := a_1) rfl) ?_
  refine g_v1 (t := 1) (u := (Enc.enc (b_2 : List (Int × Int)))) (Enc.enc (b_2 : List (Int × Int))) h1 rfl rfl ?_
  refine g_v (.int .i64 (b_2.length : Int)) (ev_len (xs := b_2) rfl) ?_
  refine g_v2 (t1 := 7) (t2 := 9) (u1 := (.int .i64 (a_1.length : Int))) (u2 := (.int .i64 (b_2.length : Int))) (.bool ((a_1.length : Int) != (b_2.length : Int))) rfl rfl rfl rfl ?_
  refine g_end ?_
  refine e_end ?_
  refine renew [(0, (Enc.enc (a_1 : List (Int × Int)))), (1, (Enc.enc (b_2 : List (Int × Int)))), (4, (.bool false)), (10, (.bool ((a_1.length : Int) != (b_2.length : Int))))] ⟨h0, h1, h4, rfl⟩ ?_
  rintro s ⟨h0, h1, h4, h10⟩
  refine .nsq ?_
  refine run_cond (t := ((a_1.length : Int) != (b_2.length : Int))) h10 h (fun h => ?_) (fun h => ?_)
  · refine .seq ?_
    refine run_reg ?_
    refine e_end ?_
    refine g_v0 (.bool false) rfl rfl ?_
    refine g_end ?_
    refine e_end ?_
    refine renew [(0, (Enc.enc (a_1 : List (Int × Int)))), (1, (Enc.enc (b_2 : List (Int × Int)))), (4, (.bool false))] ⟨h0, h1, rfl⟩ ?_
    rintro s ⟨h0, h1, h4⟩
    refine .nsq ?_
    refine .ret ?_
    have hr := Option.some.inj h
    subst hr
    exact rrA (res_tmp h4) rfl
  · refine .skip ?_
    refine .nsq ?_
    refine .seq ?_
    refine .seq ?_
    refine run_reg ?_
    refine e_end ?_
    refine g_v0 (.int .i64 0) rfl rfl ?_
    refine g_end ?_
    refine e_end ?_
    refine renew [(0, (Enc.enc (a_1 : List (Int × Int)))), (1, (Enc.enc (b_2 : List (Int × Int)))), (4, (.bool false)), (5, (.int .i64 0))] ⟨h0, h1, h4, rfl⟩ ?_
    rintro s ⟨h0, h1, h4, h5⟩
    refine .nsq ?_
    refine .block ?_
    refine .loop ?_
    exact t_f53_l1 H a_1 b_2 F 0 _ ⟨h0, h1, h4, h5⟩ h
end
def e53 (F : Nat) : Ent := ⟨53, dn2 (w_eqIntA2S F) (fun (r : Bool) => (Enc.enc (r : Bool))), 0, false⟩
theorem o53 {D : Den} {σ : Sig} {F : Nat} (hF : Fits2 Try.prog D σ) (H : H53 D σ F) : (e53 F).Ok Try.prog := by
  refine ⟨fun args r h => ?_, ⟨Try.f53, Try.func53, rfl, rfl⟩⟩
  obtain ⟨x0, x1, y, rfl, hy, rfl⟩ := dn2_open h
  exact contract_run hF (by kernel_rfl) Try.func53 rfl c53 (show 2 ≤ Try.f53.ntmps by decide) (t53 H x0 x1 _ ⟨rfl, rfl⟩ hy)
/- loop.example/g01109/laws.eqGraph -/
def A20_2 : AC := (AC.cond (O.t 9) (AC.seq (AC.reg [] [(I.mk (some 4) none false (X.v (A.mov (O.k (V.bool false)))))] []) AC.ret) AC.skip)
def A20_4 : AC := (AC.cond (O.t 15) (AC.seq (AC.reg [] [(I.mk (some 4) none false (X.v (A.mov (O.k (V.bool false)))))] []) AC.ret) AC.skip)
def A20_5 : AC := (AC.seq (AC.reg [] [(I.mk (some 4) none false (X.v (A.mov (O.k (V.bool true)))))] []) AC.ret)
def A20_3 : AC := (AC.seq (AC.seq (AC.reg [] [(I.mk (some 10) none false (X.v (A.fld (O.t 2) 1 1))), (I.mk (some 11) none false (X.v (A.load Sh.p (O.t 10)))), (I.mk (some 12) none false (X.v (A.fld (O.t 3) 1 1))), (I.mk (some 13) none false (X.v (A.load Sh.p (O.t 12)))), (I.mk (some 14) none false (X.call (O.k (V.fn 53 [] [])) [(O.t 11), (O.t 13)])), (I.mk (some 15) none false (X.v (A.un UnOp.not (O.t 14))))] []) A20_4) A20_5)
def A20_1 : AC := (AC.seq (AC.seq (AC.reg [] [(I.mk (some 5) none false (X.v (A.fld (O.t 2) 0 0))), (I.mk (some 6) none false (X.v (A.load Sh.s (O.t 5)))), (I.mk (some 7) none false (X.v (A.fld (O.t 3) 0 0))), (I.mk (some 8) none false (X.v (A.load Sh.s (O.t 7)))), (I.mk (some 9) none false (X.v (A.bin BinOp.neq (O.t 6) (O.t 8))))] []) A20_2) A20_3)
def A20 : AC := (AC.seq (AC.reg [.clr [2, 3]] [(I.mk (some 2) none false (X.box (O.t 0))), (I.mk (some 3) none false (X.box (O.t 1))), (I.mk (some 4) none false (X.v (A.mov (O.k (V.bool false)))))] []) A20_1)
def an20 : List An := [{ id := 0, pre := [.clr [2, 3]], ep := [], lin := [], sp := [] }]
theorem c20 : cC Try.prog Try.f20.ntmps an20 (Try.f20.body.getD .skip) = some A20 := by kernel_rfl
structure H20 (D : Den) (σ : Sig) (F : Nat) : Prop where
  c53 : ∀ x0 x1 r, w_eqIntA2S F x0 x1 = some r → D 53 [Enc.enc x0, Enc.enc x1] = some (Enc.enc (r : Bool))
  g53 : σ 53 = some (0, false)
abbrev R20 (r : Bool) : (Nat → V) → Prop := RR Try.prog [.tmp 4] 0 false (Enc.enc (r : Bool))
section
variable {D : Den} {σ : Sig} {F : Nat} {r : Bool}
def w_eqGraph (F : Nat) (a_1 : (Int × (List (Int × Int)))) (b_2 : (Int × (List (Int × Int)))) : Option Bool :=
  bif (a_1.1 != b_2.1) then
    some false
  else
    (w_eqIntA2S F a_1.2 b_2.2).bind fun r_3 =>
    bif (!r_3) then
      some false
    else
      some true
theorem t20 (H : H20 D σ F) (a_1 : (Int × (List (Int × Int)))) (b_2 : (Int × (List (Int × Int)))) (s : Nat → V) (hs : Facts [(0, (.agg [(.int .i64 a_1.1), (Enc.enc (a_1.2 : List (Int × Int)))])), (1, (.agg [(.int .i64 b_2.1), (Enc.enc (b_2.2 : List (Int × Int)))]))] s) (h : w_eqGraph F a_1 b_2 = some r) : Run D σ (R20 r) (.run A20 []) s := by
  unfold w_eqGraph at h
  obtain ⟨h0, h1⟩ := hs
  refine .seq ?_
  refine run_reg ?_
  refine e_clr ?_
  refine e_end ?_
  refine g_box (.agg [(.int .i64 a_1.1), (Enc.enc (a_1.2 : List (Int × Int)))]) (rd_of (keep_clear (s := s) (pk := [2, 3]) h0 rfl (map_agg (maps_cons rfl (maps_cons (Enc.map_enc _ (a_1.2 : List (Int × Int))) maps_nil)))) rfl) (gone_clear (s := s) (pk := [2, 3]) (t := 2) rfl) rfl ?_
  refine g_box (.agg [(.int .i64 b_2.1), (Enc.enc (b_2.2 : List (Int × Int)))]) (rd_of (keep_clear (s := s) (pk := [2, 3]) h1 rfl (map_agg (maps_cons rfl (maps_cons (Enc.map_enc _ (b_2.2 : List (Int × Int))) maps_nil)))) rfl) (gone_clear (s := s) (pk := [2, 3]) (t := 3) rfl) rfl ?_
  refine g_v0 (.bool false) rfl rfl ?_
  refine g_end ?_
  refine e_end ?_
  refine renew [(2, (.ref (.bx 2) 0 [] (.agg [(.int .i64 a_1.1), (Enc.enc (a_1.2 : List (Int × Int)))]))), (3, (.ref (.bx 3) 0 [] (.agg [(.int .i64 b_2.1), (Enc.enc (b_2.2 : List (Int × Int)))]))), (4, (.bool false))] ⟨rfl, rfl, rfl⟩ ?_
  rintro s ⟨h2, h3, h4⟩
  refine .nsq ?_
  refine .seq ?_
  refine .seq ?_
  refine run_reg ?_
  refine e_end ?_
  refine g_v1 (t := 2) (u := (.ref (.bx 2) 0 [] (.agg [(.int .i64 a_1.1), (Enc.enc (a_1.2 : List (Int × Int)))]))) (.ref (.bx 2) 0 [0] (.int .i64 a_1.1)) h2 rfl rfl ?_
  refine g_v1 (t := 5) (u := (.ref (.bx 2) 0 [0] (.int .i64 a_1.1))) (.int .i64 a_1.1) rfl rfl rfl ?_
  refine g_v1 (t := 3) (u := (.ref (.bx 3) 0 [] (.agg [(.int .i64 b_2.1), (Enc.enc (b_2.2 : List (Int × Int)))]))) (.ref (.bx 3) 0 [0] (.int .i64 b_2.1)) h3 rfl rfl ?_
  refine g_v1 (t := 7) (u := (.ref (.bx 3) 0 [0] (.int .i64 b_2.1))) (.int .i64 b_2.1) rfl rfl rfl ?_
  refine g_v2 (t1 := 6) (t2 := 8) (u1 := (.int .i64 a_1.1)) (u2 := (.int .i64 b_2.1)) (.bool (a_1.1 != b_2.1)) rfl rfl rfl rfl ?_
  refine g_end ?_
  refine e_end ?_
  refine renew [(2, (.ref (.bx 2) 0 [] (.agg [(.int .i64 a_1.1), (Enc.enc (a_1.2 : List (Int × Int)))]))), (3, (.ref (.bx 3) 0 [] (.agg [(.int .i64 b_2.1), (Enc.enc (b_2.2 : List (Int × Int)))]))), (4, (.bool false)), (9, (.bool (a_1.1 != b_2.1)))] ⟨h2, h3, h4, rfl⟩ ?_
  rintro s ⟨h2, h3, h4, h9⟩
  refine .nsq ?_
  refine run_cond (t := (a_1.1 != b_2.1)) h9 h (fun h => ?_) (fun h => ?_)
  · refine .seq ?_
    refine run_reg ?_
    refine e_end ?_
    refine g_v0 (.bool false) rfl rfl ?_
    refine g_end ?_
    refine e_end ?_
    refine renew [(2, (.ref (.bx 2) 0 [] (.agg [(.int .i64 a_1.1), (Enc.enc (a_1.2 : List (Int × Int)))]))), (3, (.ref (.bx 3) 0 [] (.agg [(.int .i64 b_2.1), (Enc.enc (b_2.2 : List (Int × Int)))]))), (4, (.bool false))] ⟨h2, h3, rfl⟩ ?_
    rintro s ⟨h2, h3, h4⟩
    refine .nsq ?_
    refine .ret ?_
    have hr := Option.some.inj h
    subst hr
    exact rrA (res_tmp h4) rfl
  · refine .skip ?_
    refine .nsq ?_
    refine .seq ?_
    refine .seq ?_
    refine run_reg ?_
    refine e_end ?_
    refine g_v1 (t := 2) (u := (.ref (.bx 2) 0 [] (.agg [(.int .i64 a_1.1), (Enc.enc (a_1.2 : List (Int × Int)))]))) (.ref (.bx 2) 0 [1] (Enc.enc (a_1.2 : List (Int × Int)))) h2 rfl rfl ?_
    refine g_v1 (t := 10) (u := (.ref (.bx 2) 0 [1] (Enc.enc (a_1.2 : List (Int × Int))))) (Enc.enc (a_1.2 : List (Int × Int))) rfl rfl rfl ?_
    refine g_v1 (t := 3) (u := (.ref (.bx 3) 0 [] (.agg [(.int .i64 b_2.1), (Enc.enc (b_2.2 : List (Int × Int)))]))) (.ref (.bx 3) 0 [1] (Enc.enc (b_2.2 : List (Int × Int)))) h3 rfl rfl ?_
    refine g_v1 (t := 12) (u := (.ref (.bx 3) 0 [1] (Enc.enc (b_2.2 : List (Int × Int))))) (Enc.enc (b_2.2 : List (Int × Int))) rfl rfl rfl ?_
    obtain ⟨r_3, E_r_3, h⟩ := bind_some h
    refine g_call (m := 0) (al := false) (r := (Enc.enc (r_3 : Bool))) [Enc.enc (a_1.2 : (List (Int × Int))), Enc.enc (b_2.2 : (List (Int × Int)))] (ta_cons (v := (Enc.enc (a_1.2 : List (Int × Int)))) rfl rfl (Enc.erase_enc (a_1.2 : (List (Int × Int)))) (ta_cons (v := (Enc.enc (b_2.2 : List (Int × Int)))) rfl rfl (Enc.erase_enc (b_2.2 : (List (Int × Int)))) ta_nil)) (H.c53 _ _ _ E_r_3) H.g53 rfl rfl rfl rfl ?_
    refine g_v1 (t := 14) (u := (.bool r_3)) (.bool (!r_3)) rfl rfl rfl ?_
    refine g_end ?_
    refine e_end ?_
    refine renew [(4, (.bool false)), (15, (.bool (!r_3)))] ⟨h4, rfl⟩ ?_
    rintro s ⟨h4, h15⟩
    refine .nsq ?_
    refine run_cond (t := (!r_3)) h15 h (fun h => ?_) (fun h => ?_)
    · refine .seq ?_
      refine run_reg ?_
      refine e_end ?_
      refine g_v0 (.bool false) rfl rfl ?_
      refine g_end ?_
      refine e_end ?_
      refine renew [(4, (.bool false))] rfl ?_
      rintro s h4
      refine .nsq ?_
      refine .ret ?_
      have hr := Option.some.inj h
      subst hr
      exact rrA (res_tmp h4) rfl
    · refine .skip ?_
      refine .nsq ?_
      refine .seq ?_
      refine run_reg ?_
      refine e_end ?_
      refine g_v0 (.bool true) rfl rfl ?_
      refine g_end ?_
      refine e_end ?_
      refine renew [(4, (.bool true))] rfl ?_
      rintro s h4
      refine .nsq ?_
      refine .ret ?_
      have hr := Option.some.inj h
      subst hr
      exact rrA (res_tmp h4) rfl
end
def e20 (F : Nat) : Ent := ⟨20, dn2 (w_eqGraph F) (fun (r : Bool) => (Enc.enc (r : Bool))), 0, false⟩
theorem o20 {D : Den} {σ : Sig} {F : Nat} (hF : Fits2 Try.prog D σ) (H : H20 D σ F) : (e20 F).Ok Try.prog := by
  refine ⟨fun args r h => ?_, ⟨Try.f20, Try.func20, rfl, rfl⟩⟩
  obtain ⟨x0, x1, y, rfl, hy, rfl⟩ := dn2_open h
  exact contract_run hF (by kernel_rfl) Try.func20 rfl c20 (show 2 ≤ Try.f20.ntmps by decide) (t20 H x0 x1 _ ⟨rfl, rfl⟩ hy)
/- loop.example/g01109/laws.eqIntS -/
def A21_2 : AC := (AC.cond (O.t 14) AC.skip (AC.exit 0))
def A21_4 : AC := (AC.cond (O.t 25) (AC.seq (AC.reg [] [(I.mk (some 4) none false (X.v (A.mov (O.k (V.bool false)))))] []) AC.ret) AC.skip)
def A21_5 : AC := (AC.reg [] [(I.mk (some 15) none false (X.v (A.mov (O.t 5)))), (I.mk (some 16) none false (X.v (A.bin BinOp.add (O.t 15) (O.k (V.int IntKind.i64 (Int.ofNat 1)))))), (I.mk (some 5) none false (X.v (A.mov (O.t 16))))] [])
def A21_3 : AC := (AC.seq (AC.block 1 (AC.seq (AC.reg [] [(I.mk (some 17) none false (X.v (A.mov (O.t 0)))), (I.mk (some 18) none false (X.v (A.mov (O.t 5)))), (I.mk (some 19) none false (X.v (A.idx (O.t 17) (O.t 18) 1))), (I.mk (some 20) none false (X.v (A.load Sh.s (O.t 19)))), (I.mk (some 21) none false (X.v (A.mov (O.t 1)))), (I.mk (some 22) none false (X.v (A.mov (O.t 5)))), (I.mk (some 23) none false (X.v (A.idx (O.t 21) (O.t 22) 1))), (I.mk (some 24) none false (X.v (A.load Sh.s (O.t 23)))), (I.mk (some 25) none false (X.v (A.bin BinOp.neq (O.t 20) (O.t 24))))] []) A21_4)) A21_5)
def A21_1 : AC := (AC.seq (AC.seq (AC.reg [] [(I.mk (some 11) none false (X.v (A.mov (O.t 5)))), (I.mk (some 12) none false (X.v (A.mov (O.t 0)))), (I.mk (some 13) none false (X.v (A.len (O.t 12)))), (I.mk (some 14) none false (X.v (A.bin BinOp.lss (O.t 11) (O.t 13))))] []) A21_2) A21_3)
def A21_6 : AC := (AC.seq (AC.reg [] [(I.mk (some 4) none false (X.v (A.mov (O.k (V.bool true)))))] []) AC.ret)
def A21_8 : AC := (AC.cond (O.t 10) (AC.seq (AC.reg [] [(I.mk (some 4) none false (X.v (A.mov (O.k (V.bool false)))))] []) AC.ret) AC.skip)
def A21_10 : AC := (AC.block 0 (AC.loop A21_1))
def A21_9 : AC := (AC.seq (AC.seq (AC.reg [] [(I.mk (some 5) none false (X.v (A.mov (O.k (V.int IntKind.i64 (Int.ofNat 0))))))] []) A21_10) A21_6)
def A21_7 : AC := (AC.seq (AC.seq (AC.reg [] [(I.mk (some 6) none false (X.v (A.mov (O.t 0)))), (I.mk (some 7) none false (X.v (A.len (O.t 6)))), (I.mk (some 8) none false (X.v (A.mov (O.t 1)))), (I.mk (some 9) none false (X.v (A.len (O.t 8)))), (I.mk (some 10) none false (X.v (A.bin BinOp.neq (O.t 7) (O.t 9))))] []) A21_8) A21_9)
def A21 : AC := (AC.seq (AC.reg [] [(I.mk (some 4) none false (X.v (A.mov (O.k (V.bool false)))))] []) A21_7)
def an21 : List An := []
theorem c21 : cC Try.prog Try.f21.ntmps an21 (Try.f21.body.getD .skip) = some A21 := by kernel_rfl
structure H21 (D : Den) (σ : Sig) (F : Nat) : Prop where
  mk ::
abbrev R21 (r : Bool) : (Nat → V) → Prop := RR Try.prog [.tmp 4] 0 false (Enc.enc (r : Bool))
section
variable {D : Den} {σ : Sig} {F : Nat} {r : Bool}
def w_eqIntS_l1 (F : Nat) (a_1 : (List Int)) (b_2 : (List Int))  : Nat → Int → Option Bool
  | 0, _ => none
  | k + 1, i_5 =>
    bif decide (i_5 < (a_1.length : Int)) then
      (idx a_1 i_5).bind fun e_8 =>
      (idx b_2 i_5).bind fun e_9 =>
      bif (e_8 != e_9) then
        some false
      else
        (w_eqIntS_l1 F a_1 b_2 k) (w64 (i_5 + 1))
    else
      some true
theorem t_f21_l1 (H : H21 D σ F) (a_1 : (List Int)) (b_2 : (List Int))  : ∀ (k : Nat) (i_5 : Int) (s : Nat → V), Facts [(0, (Enc.enc (a_1 : List Int))), (1, (Enc.enc (b_2 : List Int))), (4, (.bool false)), (5, (.int .i64 i_5))] s → w_eqIntS_l1 F a_1 b_2 k i_5 = some r → Run D σ (R21 r) (.run A21_1 [.lp A21_1, .bk 0, .sq A21_6]) s := by
  intro k
  induction k with
  | zero => intro i_5 s _ h; exact nomatch (h : (none : Option _) = some r)
  | succ k ih =>
    intro i_5 s hs h
    rw [w_eqIntS_l1] at h
    obtain ⟨h0, h1, h4, h5⟩ := hs
    refine .seq ?_
    refine .seq ?_
    refine run_reg ?_
    refine e_end ?_
    refine g_v1 (t := 5) (u := (.int .i64 i_5)) (.int .i64 i_5) h5 rfl rfl ?_
    refine g_v1 (t := 0) (u := (Enc.enc (a_1 : List Int))) (Enc.enc (a_1 : List Int)) h0 rfl rfl ?_
    refine g_v (.int .i64 (a_1.length : Int)) (ev_len (xs := a_1) rfl) ?_
    refine g_v2 (t1 := 11) (t2 := 13) (u1 := (.int .i64 i_5)) (u2 := (.int .i64 (a_1.length : Int))) (.bool (decide (i_5 < (a_1.length : Int)))) rfl rfl rfl rfl ?_
    refine g_end ?_
    refine e_end ?_
    refine renew [(0, (Enc.enc (a_1 : List Int))), (1, (Enc.enc (b_2 : List Int))), (4, (.bool false)), (5, (.int .i64 i_5)), (14, (.bool (decide (i_5 < (a_1.length : Int)))))] ⟨h0, h1, h4, h5, rfl⟩ ?_
    rintro s ⟨h0, h1, h4, h5, h14⟩
    refine .nsq ?_
    refine run_cond (t := decide (i_5 < (a_1.length : Int))) h14 h (fun h => ?_) (fun h => ?_)
    · refine .skip ?_
      refine .nsq ?_
      refine .seq ?_
      refine .block ?_
      refine .seq ?_
      refine run_reg ?_
      refine e_end ?_
      refine g_v1 (t := 0) (u := (Enc.enc (a_1 : List Int))) (Enc.enc (a_1 : List Int)) h0 rfl rfl ?_
      refine g_v1 (t := 5) (u := (.int .i64 i_5)) (.int .i64 i_5) h5 rfl rfl ?_
      obtain ⟨e_8, E_e_8, h⟩ := bind_some h
      refine g_v (.ref .sh 0 [] (.int .i64 e_8)) (ev_idx (t := .sh) (lo := 0) (xs := a_1) rfl rfl E_e_8 rfl rfl) ?_
      refine g_v1 (t := 19) (u := (.ref .sh 0 [] (.int .i64 e_8))) (.int .i64 e_8) rfl rfl rfl ?_
      refine g_v1 (t := 1) (u := (Enc.enc (b_2 : List Int))) (Enc.enc (b_2 : List Int)) h1 rfl rfl ?_
      refine g_v1 (t := 5) (u := (.int .i64 i_5)) (.int .i64 i_5) h5 rfl rfl ?_
      obtain ⟨e_9, E_e_9, h⟩ := bind_some h
      refine g_v (.ref .sh 0 [] (.int .i64 e_9)) (ev_idx (t := .sh) (lo := 0) (xs := b_2) rfl rfl E_e_9 rfl rfl) ?_
      refine g_v1 (t := 23) (u := (.ref .sh 0 [] (.int .i64 e_9))) (.int .i64 e_9) rfl rfl rfl ?_
      refine g_v2 (t1 := 20) (t2 := 24) (u1 := (.int .i64 e_8)) (u2 := (.int .i64 e_9)) (.bool (e_8 != e_9)) rfl rfl rfl rfl ?_
      refine g_end ?_
      refine e_end ?_
      refine renew [(0, (Enc.enc (a_1 : List Int))), (1, (Enc.enc (b_2 : List Int))), (4, (.bool false)), (5, (.int .i64 i_5)), (25, (.bool (e_8 != e_9)))] ⟨h0, h1, h4, h5, rfl⟩ ?_
      rintro s ⟨h0, h1, h4, h5, h25⟩
      refine .nsq ?_
      refine run_cond (t := (e_8 != e_9)) h25 h (fun h => ?_) (fun h => ?_)
      · refine .seq ?_
        refine run_reg ?_
        refine e_end ?_
        refine g_v0 (.bool false) rfl rfl ?_
        refine g_end ?_
        refine e_end ?_
        refine renew [(0, (Enc.enc (a_1 : List Int))), (1, (Enc.enc (b_2 : List Int))), (4, (.bool false)), (5, (.int .i64 i_5))] ⟨h0, h1, rfl, h5⟩ ?_
        rintro s ⟨h0, h1, h4, h5⟩
        refine .nsq ?_
        refine .ret ?_
        have hr := Option.some.inj h
        subst hr
        exact rrA (res_tmp h4) rfl
      · refine .skip ?_
        refine .nbk ?_
        refine .nsq ?_
        refine run_reg ?_
        refine e_end ?_
        refine g_v1 (t := 5) (u := (.int .i64 i_5)) (.int .i64 i_5) h5 rfl rfl ?_
        refine g_v1 (t := 15) (u := (.int .i64 i_5)) (.int .i64 (w64 (i_5 + 1))) rfl rfl rfl ?_
        refine g_v1 (t := 16) (u := (.int .i64 (w64 (i_5 + 1)))) (.int .i64 (w64 (i_5 + 1))) rfl rfl rfl ?_
        refine g_end ?_
        refine e_end ?_
        refine renew [(0, (Enc.enc (a_1 : List Int))), (1, (Enc.enc (b_2 : List Int))), (4, (.bool false)), (5, (.int .i64 (w64 (i_5 + 1))))] ⟨h0, h1, h4, rfl⟩ ?_
        rintro s ⟨h0, h1, h4, h5⟩
        refine .nlp ?_
        exact ih (w64 (i_5 + 1)) _ ⟨h0, h1, h4, h5⟩ h
    · refine .exit ?_
      refine .esq ?_
      refine .elp ?_
      refine .ebk ?_
      refine .nsq ?_
      refine .seq ?_
      refine run_reg ?_
      refine e_end ?_
      refine g_v0 (.bool true) rfl rfl ?_
      refine g_end ?_
      refine e_end ?_
      refine renew [(4, (.bool true))] rfl ?_
      rintro s h4
      refine .nsq ?_
      refine .ret ?_
      have hr := Option.some.inj h
      subst hr
      exact rrA (res_tmp h4) rfl
def w_eqIntS (F : Nat) (a_1 : (List Int)) (b_2 : (List Int)) : Option Bool :=
  bif ((a_1.length : Int) != (b_2.length : Int)) then
    some false
  else
    w_eqIntS_l1 F a_1 b_2 F 0
theorem t21 (H : H21 D σ F) (a_1 : (List Int)) (b_2 : (List Int)) (s : Nat → V) (hs : Facts [(0, (Enc.enc (a_1 : List Int))), (1, (Enc.enc (b_2 : List Int)))] s) (h : w_eqIntS F a_1 b_2 = some r) : Run D σ (R21 r) (.run A21 []) s := by
  unfold w_eqIntS at h
  obtain ⟨h0, h1⟩ := hs
  refine .seq ?_
  refine run_reg ?_
  refine e_end ?_
  refine g_v0 (.bool false) rfl rfl ?_
  refine g_end ?_
  refine e_end ?_
  refine renew [(0, (Enc.enc (a_1 : List Int))), (1, (Enc.enc (b_2 : List Int))), (4, (.bool false))] ⟨h0, h1, rfl⟩ ?_
  rintro s ⟨h0, h1, h4⟩
  refine .nsq ?_
  refine .seq ?_
  refine .seq ?_
  refine run_reg ?_
  refine e_end ?_
  refine g_v1 (t := 0) (u := (Enc.enc (a_1 : List Int))) (Enc.enc (a_1 : List Int)) h0 rfl rfl ?_
  refine g_v (.int .i64 (a_1.length : Int)) (ev_len (xs := a_1) rfl) ?_
  refine g_v1 (t := 1) (u := (Enc.enc (b_2 : List Int))) (Enc.enc (b_2 : List Int)) h1 rfl rfl ?_
  refine g_v (.int .i64 (b_2.length : Int)) (ev_len (xs := b_2) rfl) ?_
  refine g_v2 (t1 := 7) (t2 := 9) (u1 := (.int .i64 (a_1.length : Int))) (u2 := (.int .i64 (b_2.length : Int))) (.bool ((a_1.length : Int) != (b_2.length : Int))) rfl rfl rfl rfl ?_
  refine g_end ?_
  refine e_end ?_
  refine renew [(0, (Enc.enc (a_1 : List Int))), (1, (Enc.enc (b_2 : List Int))), (4, (.bool false)), (10, (.bool ((a_1.length : Int) != (b_2.length : Int))))] ⟨h0, h1, h4, rfl⟩ ?_
  rintro s ⟨h0, h1, h4, h10⟩
  refine .nsq ?_
  refine run_cond (t := ((a_1.length : Int) != (b_2.length : Int))) h10 h (fun h => ?_) (fun h => ?_)
  · refine .seq ?_
    refine run_reg ?_
    refine e_end ?_
    refine g_v0 (.bool false) rfl rfl ?_
    refine g_end ?_
    refine e_end ?_
    refine renew [(0, (Enc.enc (a_1 : List Int))), (1, (Enc.enc (b_2 : List Int))), (4, (.bool false))] ⟨h0, h1, rfl⟩ ?_
    rintro s ⟨h0, h1, h4⟩
    refine .nsq ?_
    refine .ret ?_
    have hr := Option.some.inj h
    subst hr
    exact rrA (res_tmp h4) rfl
  · refine .skip ?_
    refine .nsq ?_
    refine .seq ?_
    refine .seq ?_
    refine run_reg ?_
    refine e_end ?_
    refine g_v0 (.int .i64 0) rfl rfl ?_
    refine g_end ?_
    refine e_end ?_
    refine renew [(0, (Enc.enc (a_1 : List Int))), (1, (Enc.enc (b_2 : List Int))), (4, (.bool false)), (5, (.int .i64 0))] ⟨h0, h1, h4, rfl⟩ ?_
    rintro s ⟨h0, h1, h4, h5⟩
    refine .nsq ?_
    refine .block ?_
    refine .loop ?_
    exact t_f21_l1 H a_1 b_2 F 0 _ ⟨h0, h1, h4, h5⟩ h
end
def e21 (F : Nat) : Ent := ⟨21, dn2 (w_eqIntS F) (fun (r : Bool) => (Enc.enc (r : Bool))), 0, false⟩
theorem o21 {D : Den} {σ : Sig} {F : Nat} (hF : Fits2 Try.prog D σ) (H : H21 D σ F) : (e21 F).Ok Try.prog := by
  refine ⟨fun args r h => ?_, ⟨Try.f21, Try.func21, rfl, rfl⟩⟩
  obtain ⟨x0, x1, y, rfl, hy, rfl⟩ := dn2_open h
  exact contract_run hF (by kernel_rfl) Try.func21 rfl c21 (show 2 ≤ Try.f21.ntmps by decide) (t21 H x0 x1 _ ⟨rfl, rfl⟩ hy)
/- loop.example/g01109/laws.FnExactIsProgram -/
def A12_1 : AC := (AC.cond (O.t 45) (AC.seq (AC.reg [] [(I.mk (some 4) none false (X.v (A.mov (O.k (V.bool false)))))] []) AC.ret) AC.skip)
def A12_3 : AC := (AC.cond (O.t 50) (AC.seq (AC.reg [] [(I.mk (some 4) none false (X.v (A.mov (O.k (V.bool false)))))] []) AC.ret) AC.skip)
def A12_5 : AC := (AC.cond (O.t 55) (AC.seq (AC.reg [] [(I.mk (some 4) none false (X.v (A.mov (O.k (V.bool false)))))] []) AC.ret) AC.skip)
def A12_6 : AC := (AC.seq (AC.reg [] [(I.mk (some 4) none false (X.v (A.mov (O.k (V.bool true)))))] []) AC.ret)
def A12_4 : AC := (AC.seq (AC.seq (AC.reg [] [(I.mk (some 51) none false (X.v (A.mov (O.t 9)))), (I.mk (some 52) none false (X.v (A.mov (O.t 1)))), (I.mk (some 53) none false (X.call (O.k (V.fn 18 [] [])) [(O.t 52)])), (I.mk (some 54) none false (X.call (O.k (V.fn 21 [] [])) [(O.t 51), (O.t 53)])), (I.mk (some 55) none false (X.v (A.un UnOp.not (O.t 54))))] []) A12_5) A12_6)
def A12_2 : AC := (AC.seq (AC.seq (AC.reg [] [(I.mk (some 46) none false (X.v (A.load (Sh.ag [Sh.s, Sh.p]) (O.t 8)))), (I.mk (some 47) none false (X.v (A.load (Sh.ag [Sh.s, Sh.p]) (O.t 2)))), (I.mk (some 48) none false (X.call (O.k (V.fn 17 [] [])) [(O.t 47)])), (I.mk (some 49) none false (X.call (O.k (V.fn 20 [] [])) [(O.t 46), (O.t 48)])), (I.mk (some 50) none false (X.v (A.un UnOp.not (O.t 49))))] []) A12_3) A12_4)
def A12_8 : AC := (AC.cond (O.t 14) (AC.seq (AC.reg [] [(I.mk (some 4) none false (X.v (A.mov (O.k (V.bool true)))))] []) AC.ret) AC.skip)
def A12_12 : AC := (AC.cond (O.t 19) (AC.seq (AC.reg [] [(I.mk (some 4) none false (X.v (A.mov (O.k (V.bool true)))))] []) AC.ret) AC.skip)
def A12_17 : AC := (AC.seq (AC.seq (AC.reg [] [(I.mk (some 38) none false (X.v (A.mov (O.t 10)))), (I.mk (some 39) none false (X.v (A.mov (O.t 6)))), (I.mk (some 40) none false (X.v (A.beq true (O.t 38) (O.t 39)))), (I.mk (some 41) none false (X.v (A.mov (O.t 40)))), (I.mk (some 42) (some (41, false)) false (X.v (A.mov (O.t 11)))), (I.mk (some 43) (some (41, false)) false (X.v (A.mov (O.t 7)))), (I.mk (some 44) (some (41, false)) false (X.v (A.beq true (O.t 42) (O.t 43)))), (I.mk (some 45) none false (X.v (A.pick (O.t 41) (O.k (V.bool true)) (O.t 44))))] []) A12_1) A12_2)
def A12_16 : AC := (AC.seq (AC.reg [] [(I.mk (some 33) none false (X.v (A.load (Sh.ag [Sh.s, Sh.p]) (O.t 8)))), (I.mk (some 34) none false (X.v (A.mov (O.t 9)))), (I.mk (some 35) none false (X.call (O.k (V.fn 39 [] [])) [(O.t 33), (O.t 34)])), (I.mk (some 32) none false (X.v (A.mov (O.t 35)))), (I.mk (some 36) none false (X.v (A.extS (O.t 32) 0))), (I.mk (some 37) none false (X.v (A.extS (O.t 32) 1))), (I.mk (some 10) none false (X.v (A.mov (O.t 36)))), (I.mk (some 11) none false (X.v (A.mov (O.t 37))))] []) A12_17)
def A12_15 : AC := (AC.seq (AC.reg [] [(I.mk (some 30) none false (X.v (A.mov (O.t 1)))), (I.mk (some 31) none false (X.call (O.k (V.fn 18 [] [])) [(O.t 30)])), (I.mk (some 9) none false (X.v (A.mov (O.t 31))))] []) A12_16)
def A12_14 : AC := (AC.seq (AC.reg [.clr [8]] [(I.mk (some 28) none false (X.v (A.load (Sh.ag [Sh.s, Sh.p]) (O.t 2)))), (I.mk (some 29) none false (X.call (O.k (V.fn 17 [] [])) [(O.t 28)])), (I.mk (some 8) none false (X.alloc (V.agg [(V.int IntKind.i64 (Int.ofNat 0)), (V.sl Tok.nl (Sh.ag [Sh.s, Sh.s]) 0 [])]))), (I.mk none none false (X.store (Sh.ag [Sh.s, Sh.p]) (O.t 8) (O.t 29)))] []) A12_15)
def A12_13 : AC := (AC.seq (AC.reg [] [(I.mk (some 21) none false (X.v (A.load (Sh.ag [Sh.s, Sh.p]) (O.t 2)))), (I.mk (some 22) none false (X.call (O.k (V.fn 17 [] [])) [(O.t 21)])), (I.mk (some 23) none false (X.v (A.mov (O.t 1)))), (I.mk (some 24) none false (X.call (O.k (V.fn 18 [] [])) [(O.t 23)])), (I.mk (some 25) none false (X.call (O.k (V.fn 38 [] [])) [(O.t 22), (O.t 24)])), (I.mk (some 20) none false (X.v (A.mov (O.t 25)))), (I.mk (some 26) none false (X.v (A.extS (O.t 20) 0))), (I.mk (some 27) none false (X.v (A.extS (O.t 20) 1))), (I.mk (some 6) none false (X.v (A.mov (O.t 26)))), (I.mk (some 7) none false (X.v (A.mov (O.t 27))))] []) A12_14)
def A12_11 : AC := (AC.seq (AC.seq (AC.reg [] [(I.mk (some 18) none false (X.v (A.mov (O.t 5)))), (I.mk (some 19) none false (X.v (A.bin BinOp.lss (O.t 18) (O.k (V.int IntKind.i64 (Int.ofNat 0))))))] []) A12_12) A12_13)
def A12_10 : AC := (AC.seq (AC.reg [] [(I.mk (some 15) none false (X.v (A.load (Sh.ag [Sh.s, Sh.p]) (O.t 2)))), (I.mk (some 16) none false (X.v (A.mov (O.t 5)))), (I.mk (some 17) none false (X.call (O.k (V.fn 15 [] [])) [(O.t 15), (O.t 16)])), (I.mk (some 5) none false (X.v (A.mov (O.t 17))))] []) A12_11)
def A12_9 : AC := (AC.seq (AC.reg [] [(I.mk (some 5) none false (X.v (A.mov (O.k (V.int IntKind.i64 (Int.ofNat 1048576))))))] []) A12_10)
def A12_7 : AC := (AC.seq (AC.seq (AC.reg [] [(I.mk (some 12) none false (X.v (A.mov (O.t 1)))), (I.mk (some 13) none false (X.v (A.len (O.t 12)))), (I.mk (some 14) none false (X.v (A.bin BinOp.gtr (O.t 13) (O.k (V.int IntKind.i64 (Int.ofNat 1048576))))))] []) A12_8) A12_9)
def A12 : AC := (AC.seq (AC.reg [.clr [2]] [(I.mk (some 2) none false (X.box (O.t 0))), (I.mk (some 4) none false (X.v (A.mov (O.k (V.bool false)))))] []) A12_7)
def an12 : List An := [{ id := 0, pre := [.clr [2]], ep := [], lin := [], sp := [] }, { id := 8, pre := [.clr [8]], ep := [], lin := [], sp := [] }]
theorem c12 : cC Try.prog Try.f12.ntmps an12 (Try.f12.body.getD .skip) = some A12 := by kernel_rfl
structure H12 (D : Den) (σ : Sig) (F : Nat) : Prop where
  c15 : ∀ x0 x1 r, w_szGraph F x0 x1 = some r → D 15 [Enc.enc x0, Enc.enc x1] = some (Enc.enc (r : Int))
  g15 : σ 15 = some (0, false)
  c17 : ∀ x0 r, w_toGraph F x0 = some r → D 17 [Enc.enc x0] = some (Enc.enc (r : (Int × (List (Int × Int)))))
  g17 : σ 17 = some (0, true)
  c18 : ∀ x0 r, w_toIntS F x0 = some r → D 18 [Enc.enc x0] = some (Enc.enc (r : (List Int)))
  g18 : σ 18 = some (0, true)
  c38 : ∀ x0 x1 r, s_IsProgram F x0 x1 = some r → D 38 [Enc.enc x0, Enc.enc x1] = some (.tup [Enc.enc (r.1 : Bool), Enc.enc (r.2 : Bool)])
  g38 : σ 38 = some (0, false)
  c39 : ∀ x0 x1 r, i_IsProgram F x0 x1 = some r → D 39 [Enc.enc x0, Enc.enc x1] = some (.tup [Enc.enc (r.1 : Bool), Enc.enc (r.2 : Bool)])
  g39 : σ 39 = some (0, false)
  c20 : ∀ x0 x1 r, w_eqGraph F x0 x1 = some r → D 20 [Enc.enc x0, Enc.enc x1] = some (Enc.enc (r : Bool))
  g20 : σ 20 = some (0, false)
  c21 : ∀ x0 x1 r, w_eqIntS F x0 x1 = some r → D 21 [Enc.enc x0, Enc.enc x1] = some (Enc.enc (r : Bool))
  g21 : σ 21 = some (0, false)
abbrev R12 (r : Bool) : (Nat → V) → Prop := RR Try.prog [.tmp 4] 0 false (Enc.enc (r : Bool))
section
variable {D : Den} {σ : Sig} {F : Nat} {r : Bool}
def w_FnExactIsProgram_j1 (F : Nat) (aProgram_2 : (List Int)) (aG_1 : (Int × (List (Int × Int)))) (r_7 : (Int × (List (Int × Int)))) (r_8 : (List Int))  (t45_10 : Bool) : Option Bool :=
  bif t45_10 then
    some false
  else
    (w_toGraph F aG_1).bind fun r_11 =>
    (w_eqGraph F r_7 r_11).bind fun r_12 =>
    bif (!r_12) then
      some false
    else
      (w_toIntS F aProgram_2).bind fun r_13 =>
      (w_eqIntS F r_8 r_13).bind fun r_14 =>
      bif (!r_14) then
        some false
      else
        some true
theorem t_f12_j1 (H : H12 D σ F) (aProgram_2 : (List Int)) (aG_1 : (Int × (List (Int × Int)))) (r_7 : (Int × (List (Int × Int)))) (r_8 : (List Int))  (t45_10 : Bool) (s : Nat → V) (hs : Facts [(1, (Enc.enc (aProgram_2 : List Int))), (2, (.ref (.bx 2) 0 [] (.agg [(.int .i64 aG_1.1), (Enc.enc (aG_1.2 : List (Int × Int)))]))), (4, (.bool false)), (8, (.ref (.bx 8) 0 [] (.agg [(.int .i64 r_7.1), (Enc.enc (r_7.2 : List (Int × Int)))]))), (9, (Enc.enc (r_8 : List Int))), (45, (.bool t45_10))] s) (h : w_FnExactIsProgram_j1 F aProgram_2 aG_1 r_7 r_8  t45_10 = some r) : Run D σ (R12 r) (.nrm [.sq A12_1, .sq A12_2]) s := by
  unfold w_FnExactIsProgram_j1 at h
  obtain ⟨h1, h2, h4, h8, h9, h45⟩ := hs
  refine .nsq ?_
  refine run_cond (t := t45_10) h45 h (fun h => ?_) (fun h => ?_)
  · refine .seq ?_
    refine run_reg ?_
    refine e_end ?_
    refine g_v0 (.bool false) rfl rfl ?_
    refine g_end ?_
    refine e_end ?_
    refine renew [(1, (Enc.enc (aProgram_2 : List Int))), (2, (.ref (.bx 2) 0 [] (.agg [(.int .i64 aG_1.1), (Enc.enc (aG_1.2 : List (Int × Int)))]))), (4, (.bool false)), (8, (.ref (.bx 8) 0 [] (.agg [(.int .i64 r_7.1), (Enc.enc (r_7.2 : List (Int × Int)))]))), (9, (Enc.enc (r_8 : List Int)))] ⟨h1, h2, rfl, h8, h9⟩ ?_
    rintro s ⟨h1, h2, h4, h8, h9⟩
    refine .nsq ?_
    refine .ret ?_
    have hr := Option.some.inj h
    subst hr
    exact rrA (res_tmp h4) rfl
  · refine .skip ?_
    refine .nsq ?_
    refine .seq ?_
    refine .seq ?_
    refine run_reg ?_
    refine e_end ?_
    refine g_v1 (t := 8) (u := (.ref (.bx 8) 0 [] (.agg [(.int .i64 r_7.1), (Enc.enc (r_7.2 : List (Int × Int)))]))) (.agg [(.int .i64 r_7.1), (Enc.enc (r_7.2 : List (Int × Int)))]) h8 rfl rfl ?_
    refine g_v1 (t := 2) (u := (.ref (.bx 2) 0 [] (.agg [(.int .i64 aG_1.1), (Enc.enc (aG_1.2 : List (Int × Int)))]))) (.agg [(.int .i64 aG_1.1), (Enc.enc (aG_1.2 : List (Int × Int)))]) h2 rfl rfl ?_
    obtain ⟨r_11, E_r_11, h⟩ := bind_some h
    refine g_call (m := 0) (al := true) (r := (Enc.enc (r_11 : (Int × (List (Int × Int)))))) [Enc.enc (aG_1 : (Int × (List (Int × Int))))] (ta_cons (v := (.agg [(.int .i64 aG_1.1), (Enc.enc (aG_1.2 : List (Int × Int)))])) rfl rfl (Enc.erase_enc (aG_1 : (Int × (List (Int × Int))))) ta_nil) (H.c17 _ _ E_r_11) H.g17 (hal_of (ht_cons (v := (.agg [(.int .i64 aG_1.1), (Enc.enc (aG_1.2 : List (Int × Int)))])) rfl rfl rfl ht_nil)) rfl rfl rfl ?_
    obtain ⟨r_12, E_r_12, h⟩ := bind_some h
    refine g_call (m := 0) (al := false) (r := (Enc.enc (r_12 : Bool))) [Enc.enc (r_7 : (Int × (List (Int × Int)))), Enc.enc (r_11 : (Int × (List (Int × Int))))] (ta_cons (v := (.agg [(.int .i64 r_7.1), (Enc.enc (r_7.2 : List (Int × Int)))])) rfl rfl (Enc.erase_enc (r_7 : (Int × (List (Int × Int))))) (ta_cons (v := (.agg [(.int .i64 r_11.1), (Enc.enc (r_11.2 : List (Int × Int)))])) rfl rfl (Enc.erase_enc (r_11 : (Int × (List (Int × Int))))) ta_nil)) (H.c20 _ _ _ E_r_12) H.g20 rfl rfl rfl rfl ?_
    refine g_v1 (t := 49) (u := (.bool r_12)) (.bool (!r_12)) rfl rfl rfl ?_
    refine g_end ?_
    refine e_end ?_
    refine renew [(1, (Enc.enc (aProgram_2 : List Int))), (4, (.bool false)), (9, (Enc.enc (r_8 : List Int))), (50, (.bool (!r_12)))] ⟨h1, h4, h9, rfl⟩ ?_
    rintro s ⟨h1, h4, h9, h50⟩
    refine .nsq ?_
    refine run_cond (t := (!r_12)) h50 h (fun h => ?_) (fun h => ?_)
    · refine .seq ?_
      refine run_reg ?_
      refine e_end ?_
      refine g_v0 (.bool false) rfl rfl ?_
      refine g_end ?_
      refine e_end ?_
      refine renew [(1, (Enc.enc (aProgram_2 : List Int))), (4, (.bool false)), (9, (Enc.enc (r_8 : List Int)))] ⟨h1, rfl, h9⟩ ?_
      rintro s ⟨h1, h4, h9⟩
      refine .nsq ?_
      refine .ret ?_
      have hr := Option.some.inj h
      subst hr
      exact rrA (res_tmp h4) rfl
    · refine .skip ?_
      refine .nsq ?_
      refine .seq ?_
      refine .seq ?_
      refine run_reg ?_
      refine e_end ?_
      refine g_v1 (t := 9) (u := (Enc.enc (r_8 : List Int))) (Enc.enc (r_8 : List Int)) h9 rfl rfl ?_
      refine g_v1 (t := 1) (u := (Enc.enc (aProgram_2 : List Int))) (Enc.enc (aProgram_2 : List Int)) h1 rfl rfl ?_
      obtain ⟨r_13, E_r_13, h⟩ := bind_some h
      refine g_call (m := 0) (al := true) (r := (Enc.enc (r_13 : (List Int)))) [Enc.enc (aProgram_2 : (List Int))] (ta_cons (v := (Enc.enc (aProgram_2 : List Int))) rfl rfl (Enc.erase_enc (aProgram_2 : (List Int))) ta_nil) (H.c18 _ _ E_r_13) H.g18 (hal_of (ht_cons (v := (Enc.enc (aProgram_2 : List Int))) rfl rfl rfl ht_nil)) rfl rfl rfl ?_
      obtain ⟨r_14, E_r_14, h⟩ := bind_some h
      refine g_call (m := 0) (al := false) (r := (Enc.enc (r_14 : Bool))) [Enc.enc (r_8 : (List Int)), Enc.enc (r_13 : (List Int))] (ta_cons (v := (Enc.enc (r_8 : List Int))) rfl rfl (Enc.erase_enc (r_8 : (List Int))) (ta_cons (v := (Enc.enc (r_13 : List Int))) rfl rfl (Enc.erase_enc (r_13 : (List Int))) ta_nil)) (H.c21 _ _ _ E_r_14) H.g21 rfl rfl rfl rfl ?_
      refine g_v1 (t := 54) (u := (.bool r_14)) (.bool (!r_14)) rfl rfl rfl ?_
      refine g_end ?_
      refine e_end ?_
      refine renew [(4, (.bool false)), (55, (.bool (!r_14)))] ⟨h4, rfl⟩ ?_
      rintro s ⟨h4, h55⟩
      refine .nsq ?_
      refine run_cond (t := (!r_14)) h55 h (fun h => ?_) (fun h => ?_)
      · refine .seq ?_
        refine run_reg ?_
        refine e_end ?_
        refine g_v0 (.bool false) rfl rfl ?_
        refine g_end ?_
        refine e_end ?_
        refine renew [(4, (.bool false))] rfl ?_
        rintro s h4
        refine .nsq ?_
        refine .ret ?_
        have hr := Option.some.inj h
        subst hr
        exact rrA (res_tmp h4) rfl
      · refine .skip ?_
        refine .nsq ?_
        refine .seq ?_
        refine run_reg ?_
        refine e_end ?_
        refine g_v0 (.bool true) rfl rfl ?_
        refine g_end ?_
        refine e_end ?_
        refine renew [(4, (.bool true))] rfl ?_
        rintro s h4
        refine .nsq ?_
        refine .ret ?_
        have hr := Option.some.inj h
        subst hr
        exact rrA (res_tmp h4) rfl
def w_FnExactIsProgram (F : Nat) (aG_1 : (Int × (List (Int × Int)))) (aProgram_2 : (List Int)) : Option Bool :=
  bif decide ((aProgram_2.length : Int) > 1048576) then
    some true
  else
    (w_szGraph F aG_1 1048576).bind fun r_3 =>
    bif decide (r_3 < 0) then
      some true
    else
      (w_toGraph F aG_1).bind fun r_4 =>
      (w_toIntS F aProgram_2).bind fun r_5 =>
      (s_IsProgram F r_4 r_5).bind fun r_6 =>
      (w_toGraph F aG_1).bind fun r_7 =>
      (w_toIntS F aProgram_2).bind fun r_8 =>
      (i_IsProgram F r_7 r_8).bind fun r_9 =>
      bif (r_9.1 != r_6.1) then
        w_FnExactIsProgram_j1 F aProgram_2 aG_1 r_7 r_8 true
      else
        w_FnExactIsProgram_j1 F aProgram_2 aG_1 r_7 r_8 (r_9.2 != r_6.2)
theorem t12 (H : H12 D σ F) (aG_1 : (Int × (List (Int × Int)))) (aProgram_2 : (List Int)) (s : Nat → V) (hs : Facts [(0, (.agg [(.int .i64 aG_1.1), (Enc.enc (aG_1.2 : List (Int × Int)))])), (1, (Enc.enc (aProgram_2 : List Int)))] s) (h : w_FnExactIsProgram F aG_1 aProgram_2 = some r) : Run D σ (R12 r) (.run A12 []) s := by
  unfold w_FnExactIsProgram at h
  obtain ⟨h0, h1⟩ := hs
  refine .seq ?_
  refine run_reg ?_
  refine e_clr ?_
  refine e_end ?_
  refine g_box (.agg [(.int .i64 aG_1.1), (Enc.enc (aG_1.2 : List (Int × Int)))]) (rd_of (keep_clear (s := s) (pk := [2]) h0 rfl (map_agg (maps_cons rfl (maps_cons (Enc.map_enc _ (aG_1.2 : List (Int × Int))) maps_nil)))) rfl) (gone_clear (s := s) (pk := [2]) (t := 2) rfl) rfl ?_
  refine g_v0 (.bool false) rfl rfl ?_
  refine g_end ?_
  refine e_end ?_
  refine renew [(1, (Enc.enc (aProgram_2 : List Int))), (2, (.ref (.bx 2) 0 [] (.agg [(.int .i64 aG_1.1), (Enc.enc (aG_1.2 : List (Int × Int)))]))), (4, (.bool false))] ⟨(keep_clear (s := s) (pk := [2]) h1 rfl (Enc.map_enc _ (aProgram_2 : List Int))), rfl, rfl⟩ ?_
  rintro s ⟨h1, h2, h4⟩
  refine .nsq ?_
  refine .seq ?_
  refine .seq ?_
  refine run_reg ?_
  refine e_end ?_
  refine g_v1 (t := 1) (u := (Enc.enc (aProgram_2 : List Int))) (Enc.enc (aProgram_2 : List Int)) h1 rfl rfl ?_
  refine g_v (.int .i64 (aProgram_2.length : Int)) (ev_len (xs := aProgram_2) rfl) ?_
  refine g_v1 (t := 13) (u := (.int .i64 (aProgram_2.length : Int))) (.bool (decide ((aProgram_2.length : Int) > 1048576))) rfl rfl rfl ?_
  refine g_end ?_
  refine e_end ?_
  refine renew [(1, (Enc.enc (aProgram_2 : List Int))), (2, (.ref (.bx 2) 0 [] (.agg [(.int .i64 aG_1.1), (Enc.enc (aG_1.2 : List (Int × Int)))]))), (4, (.bool false)), (14, (.bool (decide ((aProgram_2.length : Int) > 1048576))))] ⟨h1, h2, h4, rfl⟩ ?_
  rintro s ⟨h1, h2, h4, h14⟩
  refine .nsq ?_
  refine run_cond (t := decide ((aProgram_2.length : Int) > 1048576)) h14 h (fun h => ?_) (fun h => ?_)
  · refine .seq ?_
    refine run_reg ?_
    refine e_end ?_
    refine g_v0 (.bool true) rfl rfl ?_
    refine g_end ?_
    refine e_end ?_
    refine renew [(1, (Enc.enc (aProgram_2 : List Int))), (2, (.ref (.bx 2) 0 [] (.agg [(.int .i64 aG_1.1), (Enc.enc (aG_1.2 : List (Int × Int)))]))), (4, (.bool true))] ⟨h1, h2, rfl⟩ ?_
    rintro s ⟨h1, h2, h4⟩
    refine .nsq ?_
    refine .ret ?_
    have hr := Option.some.inj h
    subst hr
    exact rrA (res_tmp h4) rfl
  · refine .skip ?_
    refine .nsq ?_
    refine .seq ?_
    refine run_reg ?_
    refine e_end ?_
    refine g_v0 (.int .i64 1048576) rfl rfl ?_
    refine g_end ?_
    refine e_end ?_
    refine renew [(1, (Enc.enc (aProgram_2 : List Int))), (2, (.ref (.bx 2) 0 [] (.agg [(.int .i64 aG_1.1), (Enc.enc (aG_1.2 : List (Int × Int)))]))), (4, (.bool false)), (5, (.int .i64 1048576))] ⟨h1, h2, h4, rfl⟩ ?_
    rintro s ⟨h1, h2, h4, h5⟩
    refine .nsq ?_
    refine .seq ?_
    refine run_reg ?_
    refine e_end ?_
    refine g_v1 (t := 2) (u := (.ref (.bx 2) 0 [] (.agg [(.int .i64 aG_1.1), (Enc.enc (aG_1.2 : List (Int × Int)))]))) (.agg [(.int .i64 aG_1.1), (Enc.enc (aG_1.2 : List (Int × Int)))]) h2 rfl rfl ?_
    refine g_v1 (t := 5) (u := (.int .i64 1048576)) (.int .i64 1048576) h5 rfl rfl ?_
    obtain ⟨r_3, E_r_3, h⟩ := bind_some h
    refine g_call (m := 0) (al := false) (r := (Enc.enc (r_3 : Int))) [Enc.enc (aG_1 : (Int × (List (Int × Int)))), Enc.enc (1048576 : Int)] (ta_cons (v := (.agg [(.int .i64 aG_1.1), (Enc.enc (aG_1.2 : List (Int × Int)))])) rfl rfl (Enc.erase_enc (aG_1 : (Int × (List (Int × Int))))) (ta_cons (v := (.int .i64 1048576)) rfl rfl rfl ta_nil)) (H.c15 _ _ _ E_r_3) H.g15 rfl rfl rfl rfl ?_
    refine g_v1 (t := 17) (u := (.int .i64 r_3)) (.int .i64 r_3) rfl rfl rfl ?_
    refine g_end ?_
    refine e_end ?_
    refine renew [(1, (Enc.enc (aProgram_2 : List Int))), (2, (.ref (.bx 2) 0 [] (.agg [(.int .i64 aG_1.1), (Enc.enc (aG_1.2 : List (Int × Int)))]))), (4, (.bool false)), (5, (.int .i64 r_3))] ⟨h1, h2, h4, rfl⟩ ?_
    rintro s ⟨h1, h2, h4, h5⟩
    refine .nsq ?_
    refine .seq ?_
    refine .seq ?_
    refine run_reg ?_
    refine e_end ?_
    refine g_v1 (t := 5) (u := (.int .i64 r_3)) (.int .i64 r_3) h5 rfl rfl ?_
    refine g_v1 (t := 18) (u := (.int .i64 r_3)) (.bool (decide (r_3 < 0))) rfl rfl rfl ?_
    refine g_end ?_
    refine e_end ?_
    refine renew [(1, (Enc.enc (aProgram_2 : List Int))), (2, (.ref (.bx 2) 0 [] (.agg [(.int .i64 aG_1.1), (Enc.enc (aG_1.2 : List (Int × Int)))]))), (4, (.bool false)), (19, (.bool (decide (r_3 < 0))))] ⟨h1, h2, h4, rfl⟩ ?_
    rintro s ⟨h1, h2, h4, h19⟩
    refine .nsq ?_
    refine run_cond (t := decide (r_3 < 0)) h19 h (fun h => ?_) (fun h => ?_)
    · refine .seq ?_
      refine run_reg ?_
      refine e_end ?_
      refine g_v0 (.bool true) rfl rfl ?_
      refine g_end ?_
      refine e_end ?_
      refine renew [(1, (Enc.enc (aProgram_2 : List Int))), (2, (.ref (.bx 2) 0 [] (.agg [(.int .i64 aG_1.1), (Enc.enc (aG_1.2 : List (Int × Int)))]))), (4, (.bool true))] ⟨h1, h2, rfl⟩ ?_
      rintro s ⟨h1, h2, h4⟩
      refine .nsq ?_
      refine .ret ?_
      have hr := Option.some.inj h
      subst hr
      exact rrA (res_tmp h4) rfl
    · refine .skip ?_
      refine .nsq ?_
      refine .seq ?_
      refine run_reg ?_
      refine e_end ?_
      refine g_v1 (t := 2) (u := (.ref (.bx 2) 0 [] (.agg [(.int .i64 aG_1.1), (Enc.enc (aG_1.2 : List (Int × Int)))]))) (.agg [(.int .i64 aG_1.1), (Enc.enc (aG_1.2 : List (Int × Int)))]) h2 rfl rfl ?_
      obtain ⟨r_4, E_r_4, h⟩ := bind_some h
      refine g_call (m := 0) (al := true) (r := (Enc.enc (r_4 : (Int × (List (Int × Int)))))) [Enc.enc (aG_1 : (Int × (List (Int × Int))))] (ta_cons (v := (.agg [(.int .i64 aG_1.1), (Enc.enc (aG_1.2 : List (Int × Int)))])) rfl rfl (Enc.erase_enc (aG_1 : (Int × (List (Int × Int))))) ta_nil) (H.c17 _ _ E_r_4) H.g17 (hal_of (ht_cons (v := (.agg [(.int .i64 aG_1.1), (Enc.enc (aG_1.2 : List (Int × Int)))])) rfl rfl rfl ht_nil)) rfl rfl rfl ?_
      refine g_v1 (t := 1) (u := (Enc.enc (aProgram_2 : List Int))) (Enc.enc (aProgram_2 : List Int)) h1 rfl rfl ?_
      obtain ⟨r_5, E_r_5, h⟩ := bind_some h
      refine g_call (m := 0) (al := true) (r := (Enc.enc (r_5 : (List Int)))) [Enc.enc (aProgram_2 : (List Int))] (ta_cons (v := (Enc.enc (aProgram_2 : List Int))) rfl rfl (Enc.erase_enc (aProgram_2 : (List Int))) ta_nil) (H.c18 _ _ E_r_5) H.g18 (hal_of (ht_cons (v := (Enc.enc (aProgram_2 : List Int))) rfl rfl rfl ht_nil)) rfl rfl rfl ?_
      obtain ⟨r_6, E_r_6, h⟩ := bind_some h
      refine g_call (m := 0) (al := false) (r := (.tup [Enc.enc (r_6.1 : Bool), Enc.enc (r_6.2 : Bool)])) [Enc.enc (r_4 : (Int × (List (Int × Int)))), Enc.enc (r_5 : (List Int))] (ta_cons (v := (.agg [(.int .i64 r_4.1), (Enc.enc (r_4.2 : List (Int × Int)))])) rfl rfl (Enc.erase_enc (r_4 : (Int × (List (Int × Int))))) (ta_cons (v := (Enc.enc (r_5 : List Int))) rfl rfl (Enc.erase_enc (r_5 : (List Int))) ta_nil)) (H.c38 _ _ _ E_r_6) H.g38 rfl rfl rfl rfl ?_
      refine g_v1 (t := 25) (u := (.tup [(.bool r_6.1), (.bool r_6.2)])) (.tup [(.bool r_6.1), (.bool r_6.2)]) rfl rfl rfl ?_
      refine g_v1 (t := 20) (u := (.tup [(.bool r_6.1), (.bool r_6.2)])) (.bool r_6.1) rfl rfl rfl ?_
      refine g_v1 (t := 20) (u := (.tup [(.bool r_6.1), (.bool r_6.2)])) (.bool r_6.2) rfl rfl rfl ?_
      refine g_v1 (t := 26) (u := (.bool r_6.1)) (.bool r_6.1) rfl rfl rfl ?_
      refine g_v1 (t := 27) (u := (.bool r_6.2)) (.bool r_6.2) rfl rfl rfl ?_
      refine g_end ?_
      refine e_end ?_
      refine renew [(1, (Enc.enc (aProgram_2 : List Int))), (2, (.ref (.bx 2) 0 [] (.agg [(.int .i64 aG_1.1), (Enc.enc (aG_1.2 : List (Int × Int)))]))), (4, (.bool false)), (6, (.bool r_6.1)), (7, (.bool r_6.2))] ⟨h1, h2, h4, rfl, rfl⟩ ?_
      rintro s ⟨h1, h2, h4, h6, h7⟩
      refine .nsq ?_
      refine .seq ?_
      refine run_reg ?_
      refine e_clr ?_
      refine e_end ?_
      refine g_v1 (t := 2) (u := (.ref (.bx 2) 0 [] (.agg [(.int .i64 aG_1.1), (Enc.enc (aG_1.2 : List (Int × Int)))]))) (.agg [(.int .i64 aG_1.1), (Enc.enc (aG_1.2 : List (Int × Int)))]) (keep_clear (s := s) (pk := [8]) h2 rfl (map_bx rfl (map_agg (maps_cons rfl (maps_cons (Enc.map_enc _ (aG_1.2 : List (Int × Int))) maps_nil))))) rfl rfl ?_
      obtain ⟨r_7, E_r_7, h⟩ := bind_some h
      refine g_call (m := 0) (al := true) (r := (Enc.enc (r_7 : (Int × (List (Int × Int)))))) [Enc.enc (aG_1 : (Int × (List (Int × Int))))] (ta_cons (v := (.agg [(.int .i64 aG_1.1), (Enc.enc (aG_1.2 : List (Int × Int)))])) rfl rfl (Enc.erase_enc (aG_1 : (Int × (List (Int × Int))))) ta_nil) (H.c17 _ _ E_r_7) H.g17 (hal_of (ht_cons (v := (.agg [(.int .i64 aG_1.1), (Enc.enc (aG_1.2 : List (Int × Int)))])) rfl rfl rfl ht_nil)) rfl rfl rfl ?_
      refine g_alloc (gone_clear (s := s) (pk := [8]) (t := 8) rfl) ?_
      refine g_store (.agg [(.int .i64 r_7.1), (Enc.enc (r_7.2 : List (Int × Int)))]) (rd_of rfl rfl) (rd_of rfl rfl) (by refine ⟨by decide, by decide, rfl, rfl, rfl, ?_⟩; first | rfl | simp [V.toks, V.tokss, Enc.toks_enc]) ?_
      refine g_end ?_
      refine e_end ?_
      refine renew [(1, (Enc.enc (aProgram_2 : List Int))), (2, (.ref (.bx 2) 0 [] (.agg [(.int .i64 aG_1.1), (Enc.enc (aG_1.2 : List (Int × Int)))]))), (4, (.bool false)), (6, (.bool r_6.1)), (7, (.bool r_6.2)), (8, (.ref (.bx 8) 0 [] (.agg [(.int .i64 r_7.1), (Enc.enc (r_7.2 : List (Int × Int)))])))] ⟨(keep_mut (keep_clear (s := s) (pk := [8]) h1 rfl (Enc.map_enc _ (aProgram_2 : List Int))) (Enc.mut_enc _ _ _ _ (aProgram_2 : List Int))), (keep_mut (keep_clear (s := s) (pk := [8]) h2 rfl (map_bx rfl (map_agg (maps_cons rfl (maps_cons (Enc.map_enc _ (aG_1.2 : List (Int × Int))) maps_nil))))) (mut_ref_ne rfl rfl (mut_agg (muts_cons rfl (muts_cons (Enc.mut_enc _ _ _ _ (aG_1.2 : List (Int × Int))) rfl))))), (keep_mut (keep_clear (s := s) (pk := [8]) h4 rfl rfl) rfl), (keep_mut (keep_clear (s := s) (pk := [8]) h6 rfl rfl) rfl), (keep_mut (keep_clear (s := s) (pk := [8]) h7 rfl rfl) rfl), (keep_mut rfl rfl)⟩ ?_
      rintro s ⟨h1, h2, h4, h6, h7, h8⟩
      refine .nsq ?_
      refine .seq ?_
      refine run_reg ?_
      refine e_end ?_
      refine g_v1 (t := 1) (u := (Enc.enc (aProgram_2 : List Int))) (Enc.enc (aProgram_2 : List Int)) h1 rfl rfl ?_
      obtain ⟨r_8, E_r_8, h⟩ := bind_some h
      refine g_call (m := 0) (al := true) (r := (Enc.enc (r_8 : (List Int)))) [Enc.enc (aProgram_2 : (List Int))] (ta_cons (v := (Enc.enc (aProgram_2 : List Int))) rfl rfl (Enc.erase_enc (aProgram_2 : (List Int))) ta_nil) (H.c18 _ _ E_r_8) H.g18 (hal_of (ht_cons (v := (Enc.enc (aProgram_2 : List Int))) rfl rfl rfl ht_nil)) rfl rfl rfl ?_
      refine g_v1 (t := 31) (u := (Enc.enc (r_8 : List Int))) (Enc.enc (r_8 : List Int)) rfl rfl rfl ?_
      refine g_end ?_
      refine e_end ?_
      refine renew [(1, (Enc.enc (aProgram_2 : List Int))), (2, (.ref (.bx 2) 0 [] (.agg [(.int .i64 aG_1.1), (Enc.enc (aG_1.2 : List (Int × Int)))]))), (4, (.bool false)), (6, (.bool r_6.1)), (7, (.bool r_6.2)), (8, (.ref (.bx 8) 0 [] (.agg [(.int .i64 r_7.1), (Enc.enc (r_7.2 : List (Int × Int)))]))), (9, (Enc.enc (r_8 : List Int)))] ⟨h1, h2, h4, h6, h7, h8, rfl⟩ ?_
      rintro s ⟨h1, h2, h4, h6, h7, h8, h9⟩
      refine .nsq ?_
      refine .seq ?_
      refine run_reg ?_
      refine e_end ?_
      refine g_v1 (t := 8) (u := (.ref (.bx 8) 0 [] (.agg [(.int .i64 r_7.1), (Enc.enc (r_7.2 : List (Int × Int)))]))) (.agg [(.int .i64 r_7.1), (Enc.enc (r_7.2 : List (Int × Int)))]) h8 rfl rfl ?_
      refine g_v1 (t := 9) (u := (Enc.enc (r_8 : List Int))) (Enc.enc (r_8 : List Int)) h9 rfl rfl ?_
      obtain ⟨r_9, E_r_9, h⟩ := bind_some h
      refine g_call (m := 0) (al := false) (r := (.tup [Enc.enc (r_9.1 : Bool), Enc.enc (r_9.2 : Bool)])) [Enc.enc (r_7 : (Int × (List (Int × Int)))), Enc.enc (r_8 : (List Int))] (ta_cons (v := (.agg [(.int .i64 r_7.1), (Enc.enc (r_7.2 : List (Int × Int)))])) rfl rfl (Enc.erase_enc (r_7 : (Int × (List (Int × Int))))) (ta_cons (v := (Enc.enc (r_8 : List Int))) rfl rfl (Enc.erase_enc (r_8 : (List Int))) ta_nil)) (H.c39 _ _ _ E_r_9) H.g39 rfl rfl rfl rfl ?_
      refine g_v1 (t := 35) (u := (.tup [(.bool r_9.1), (.bool r_9.2)])) (.tup [(.bool r_9.1), (.bool r_9.2)]) rfl rfl rfl ?_
      refine g_v1 (t := 32) (u := (.tup [(.bool r_9.1), (.bool r_9.2)])) (.bool r_9.1) rfl rfl rfl ?_
      refine g_v1 (t := 32) (u := (.tup [(.bool r_9.1), (.bool r_9.2)])) (.bool r_9.2) rfl rfl rfl ?_
      refine g_v1 (t := 36) (u := (.bool r_9.1)) (.bool r_9.1) rfl rfl rfl ?_
      refine g_v1 (t := 37) (u := (.bool r_9.2)) (.bool r_9.2) rfl rfl rfl ?_
      refine g_end ?_
      refine e_end ?_
      refine renew [(1, (Enc.enc (aProgram_2 : List Int))), (2, (.ref (.bx 2) 0 [] (.agg [(.int .i64 aG_1.1), (Enc.enc (aG_1.2 : List (Int × Int)))]))), (4, (.bool false)), (6, (.bool r_6.1)), (7, (.bool r_6.2)), (8, (.ref (.bx 8) 0 [] (.agg [(.int .i64 r_7.1), (Enc.enc (r_7.2 : List (Int × Int)))]))), (9, (Enc.enc (r_8 : List Int))), (10, (.bool r_9.1)), (11, (.bool r_9.2))] ⟨h1, h2, h4, h6, h7, h8, h9, rfl, rfl⟩ ?_
      rintro s ⟨h1, h2, h4, h6, h7, h8, h9, h10, h11⟩
      refine .nsq ?_
      refine .seq ?_
      refine .seq ?_
      refine run_reg ?_
      refine e_end ?_
      refine g_v1 (t := 10) (u := (.bool r_9.1)) (.bool r_9.1) h10 rfl rfl ?_
      refine g_v1 (t := 6) (u := (.bool r_6.1)) (.bool r_6.1) h6 rfl rfl ?_
      refine g_v2 (t1 := 38) (t2 := 39) (u1 := (.bool r_9.1)) (u2 := (.bool r_6.1)) (.bool (r_9.1 != r_6.1)) rfl rfl rfl rfl ?_
      refine g_v1 (t := 40) (u := (.bool (r_9.1 != r_6.1))) (.bool (r_9.1 != r_6.1)) rfl rfl rfl ?_
      refine split_on (c := (r_9.1 != r_6.1)) h (fun hg4 h => ?_) (fun hg4 h => ?_)
      · refine g_no (Eq.trans (b := .bool (r_9.1 != r_6.1)) rfl (congrArg V.bool hg4)) ?_
        refine g_no (Eq.trans (b := .bool (r_9.1 != r_6.1)) rfl (congrArg V.bool hg4)) ?_
        refine g_no (Eq.trans (b := .bool (r_9.1 != r_6.1)) rfl (congrArg V.bool hg4)) ?_
        refine g_v2 (t1 := 41) (t2 := 44) (u1 := (.bool true)) (u2 := (.tup [])) (.bool true) (Eq.trans (b := .bool (r_9.1 != r_6.1)) rfl (congrArg V.bool hg4)) rfl rfl rfl ?_
        refine g_end ?_
        refine e_end ?_
        refine renew [(1, (Enc.enc (aProgram_2 : List Int))), (2, (.ref (.bx 2) 0 [] (.agg [(.int .i64 aG_1.1), (Enc.enc (aG_1.2 : List (Int × Int)))]))), (4, (.bool false)), (8, (.ref (.bx 8) 0 [] (.agg [(.int .i64 r_7.1), (Enc.enc (r_7.2 : List (Int × Int)))]))), (9, (Enc.enc (r_8 : List Int))), (45, (.bool true))] ⟨h1, h2, h4, h8, h9, rfl⟩ ?_
        rintro s ⟨h1, h2, h4, h8, h9, h45⟩
        exact t_f12_j1 H aProgram_2 aG_1 r_7 r_8 true _ ⟨h1, h2, h4, h8, h9, h45⟩ h
      · refine g_yes (Eq.trans (b := .bool (r_9.1 != r_6.1)) rfl (congrArg V.bool hg4)) (g_v1 (t := 11) (u := (.bool r_9.2)) (.bool r_9.2) h11 rfl rfl ?_)
        refine g_yes (Eq.trans (b := .bool (r_9.1 != r_6.1)) rfl (congrArg V.bool hg4)) (g_v1 (t := 7) (u := (.bool r_6.2)) (.bool r_6.2) h7 rfl rfl ?_)
        refine g_yes (Eq.trans (b := .bool (r_9.1 != r_6.1)) rfl (congrArg V.bool hg4)) (g_v2 (t1 := 42) (t2 := 43) (u1 := (.bool r_9.2)) (u2 := (.bool r_6.2)) (.bool (r_9.2 != r_6.2)) rfl rfl rfl rfl ?_)
        refine g_v2 (t1 := 41) (t2 := 44) (u1 := (.bool false)) (u2 := (.bool (r_9.2 != r_6.2))) (.bool (r_9.2 != r_6.2)) (Eq.trans (b := .bool (r_9.1 != r_6.1)) rfl (congrArg V.bool hg4)) rfl rfl rfl ?_
        refine g_end ?_
        refine e_end ?_
        refine renew [(1, (Enc.enc (aProgram_2 : List Int))), (2, (.ref (.bx 2) 0 [] (.agg [(.int .i64 aG_1.1), (Enc.enc (aG_1.2 : List (Int × Int)))]))), (4, (.bool false)), (8, (.ref (.bx 8) 0 [] (.agg [(.int .i64 r_7.1), (Enc.enc (r_7.2 : List (Int × Int)))]))), (9, (Enc.enc (r_8 : List Int))), (45, (.bool (r_9.2 != r_6.2)))] ⟨h1, h2, h4, h8, h9, rfl⟩ ?_
        rintro s ⟨h1, h2, h4, h8, h9, h45⟩
        exact t_f12_j1 H aProgram_2 aG_1 r_7 r_8 (r_9.2 != r_6.2) _ ⟨h1, h2, h4, h8, h9, h45⟩ h
end
def e12 (F : Nat) : Ent := ⟨12, dn2 (w_FnExactIsProgram F) (fun (r : Bool) => (Enc.enc (r : Bool))), 0, false⟩
theorem o12 {D : Den} {σ : Sig} {F : Nat} (hF : Fits2 Try.prog D σ) (H : H12 D σ F) : (e12 F).Ok Try.prog := by
  refine ⟨fun args r h => ?_, ⟨Try.f12, Try.func12, rfl, rfl⟩⟩
  obtain ⟨x0, x1, y, rfl, hy, rfl⟩ := dn2_open h
  exact contract_run hF (by kernel_rfl) Try.func12 rfl c12 (show 2 ≤ Try.f12.ntmps by decide) (t12 H x0 x1 _ ⟨rfl, rfl⟩ hy)
end Go.Zq
