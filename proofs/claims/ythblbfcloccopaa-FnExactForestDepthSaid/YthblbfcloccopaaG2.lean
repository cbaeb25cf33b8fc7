/- Functions of the program as typed functions, and that the machine runs as they say (part 2). No further condition. -/
import Derived.Test.YthblbfcloccopaaK2
import Derived.Test.YthblbfcloccopaaProg
import Derived.Test.YthblbfcloccopaaChecked
import Derived.KernelRfl
import Derived.Test.YthblbfcloccopaaG1
set_option linter.unusedVariables false
set_option linter.unusedSimpArgs false
/- Functions of the program, as typed functions, and that the machine runs as they say. -/
namespace Go.Zq
open Go.Proofs
/- loop.example/g01109/impl.IsGraph -/
def A50_5 : AC := (AC.cond (O.t 48) (AC.seq (AC.reg [] [(I.mk (some 2) none false (X.v (A.mov (O.k (V.bool false)))))] []) AC.ret) AC.skip)
def A50_4 : AC := (AC.seq (AC.reg [] [(I.mk (some 17) none false (X.v (A.idxA (O.t 4) (O.k (V.int IntKind.i64 (Int.ofNat 0))) 2 1))), (I.mk (some 18) none false (X.v (A.load Sh.s (O.t 17)))), (I.mk (some 19) none false (X.v (A.bin BinOp.lss (O.t 18) (O.k (V.int IntKind.i64 (Int.ofNat 0)))))), (I.mk (some 20) none false (X.v (A.mov (O.t 19)))), (I.mk (some 21) (some (20, false)) false (X.v (A.idxA (O.t 4) (O.k (V.int IntKind.i64 (Int.ofNat 0))) 2 1))), (I.mk (some 22) (some (20, false)) false (X.v (A.load Sh.s (O.t 21)))), (I.mk (some 23) (some (20, false)) false (X.v (A.idxA (O.t 4) (O.k (V.int IntKind.i64 (Int.ofNat 1))) 2 1))), (I.mk (some 24) (some (20, false)) false (X.v (A.load Sh.s (O.t 23)))), (I.mk (some 25) (some (20, false)) false (X.v (A.bin BinOp.geq (O.t 22) (O.t 24)))), (I.mk (some 26) none false (X.v (A.pick (O.t 20) (O.k (V.bool true)) (O.t 25)))), (I.mk (some 27) none false (X.v (A.mov (O.t 26)))), (I.mk (some 28) (some (27, false)) false (X.v (A.idxA (O.t 4) (O.k (V.int IntKind.i64 (Int.ofNat 1))) 2 1))), (I.mk (some 29) (some (27, false)) false (X.v (A.load Sh.s (O.t 28)))), (I.mk (some 30) (some (27, false)) false (X.v (A.fld (O.t 1) 0 0))), (I.mk (some 31) (some (27, false)) false (X.v (A.load Sh.s (O.t 30)))), (I.mk (some 32) (some (27, false)) false (X.v (A.bin BinOp.geq (O.t 29) (O.t 31)))), (I.mk (some 33) none false (X.v (A.pick (O.t 27) (O.k (V.bool true)) (O.t 32)))), (I.mk (some 34) none false (X.v (A.mov (O.t 33)))), (I.mk (some 35) (some (34, false)) false (X.v (A.mov (O.t 3)))), (I.mk (some 36) (some (34, false)) false (X.v (A.bin BinOp.gtr (O.t 35) (O.k (V.int IntKind.i64 (Int.ofNat 0)))))), (I.mk (some 37) (some (34, false)) false (X.v (A.mov (O.t 36)))), (I.mk (some 38) (some (37, true)) false (X.v (A.fld (O.t 1) 1 1))), (I.mk (some 39) (some (37, true)) false (X.v (A.load Sh.p (O.t 38)))), (I.mk (some 40) (some (37, true)) false (X.v (A.mov (O.t 3)))), (I.mk (some 41) (some (37, true)) false (X.v (A.bin BinOp.sub (O.t 40) (O.k (V.int IntKind.i64 (Int.ofNat 1)))))), (I.mk (some 42) (some (37, true)) false (X.v (A.idx (O.t 39) (O.t 41) 2))), (I.mk (some 43) (some (37, true)) false (X.v (A.sliceA (O.t 42) 2 Sh.s))), (I.mk (some 44) (some (37, true)) false (X.v (A.sliceA (O.t 4) 2 Sh.s))), (I.mk (some 45) (some (37, true)) false (X.call (O.k (V.fn 100 [] [])) [(O.t 43), (O.t 44)])), (I.mk (some 46) (some (37, true)) false (X.v (A.bin BinOp.geq (O.t 45) (O.k (V.int IntKind.i64 (Int.ofNat 0)))))), (I.mk (some 47) (some (34, false)) false (X.v (A.pick (O.t 37) (O.t 46) (O.k (V.bool false))))), (I.mk (some 48) none false (X.v (A.pick (O.t 34) (O.k (V.bool true)) (O.t 47))))] []) A50_5)
def A50_6 : AC := (AC.reg [] [(I.mk (some 49) none false (X.v (A.bin BinOp.add (O.t 12) (O.k (V.int IntKind.i64 (Int.ofNat 1)))))), (I.mk (some 12) none false (X.v (A.mov (O.t 49))))] [])
def A50_3 : AC := (AC.seq (AC.block 1 (AC.seq (AC.reg [.clr [4]] [(I.mk (some 14) none false (X.v (A.mov (O.t 12)))), (I.mk (some 15) none false (X.v (A.idx (O.t 10) (O.t 12) 2))), (I.mk (some 16) none false (X.v (A.load (Sh.ag [Sh.s, Sh.s]) (O.t 15)))), (I.mk (some 4) none false (X.alloc (V.agg [(V.int IntKind.i64 (Int.ofNat 0)), (V.int IntKind.i64 (Int.ofNat 0))]))), (I.mk (some 3) none false (X.v (A.mov (O.t 14)))), (I.mk none none false (X.store (Sh.ag [Sh.s, Sh.s]) (O.t 4) (O.t 16)))] []) A50_4)) A50_6)
def A50_2 : AC := (AC.seq (AC.cond (O.t 13) AC.skip (AC.exit 0)) A50_3)
def A50_1 : AC := (AC.seq (AC.reg [] [(I.mk (some 13) none false (X.v (A.bin BinOp.lss (O.t 12) (O.t 11))))] []) A50_2)
def A50_7 : AC := (AC.seq (AC.reg [] [(I.mk (some 2) none false (X.v (A.mov (O.k (V.bool true)))))] []) AC.ret)
def A50_9 : AC := (AC.cond (O.t 8) (AC.seq (AC.reg [] [(I.mk (some 2) none false (X.v (A.mov (O.k (V.bool false)))))] []) AC.ret) AC.skip)
def A50_11 : AC := (AC.block 0 (AC.loop A50_1))
def A50_10 : AC := (AC.seq (AC.seq (AC.reg [] [(I.mk (some 9) none false (X.v (A.fld (O.t 1) 1 1))), (I.mk (some 10) none false (X.v (A.load Sh.p (O.t 9)))), (I.mk (some 11) none false (X.v (A.len (O.t 10)))), (I.mk (some 12) none false (X.v (A.mov (O.k (V.int IntKind.i64 (Int.ofNat 0))))))] []) A50_11) A50_7)
def A50_8 : AC := (AC.seq (AC.seq (AC.reg [] [(I.mk (some 5) none false (X.v (A.fld (O.t 1) 0 0))), (I.mk (some 6) none false (X.v (A.load Sh.s (O.t 5)))), (I.mk (some 7) none false (X.call (O.k (V.fn 66 [] [])) [(O.t 6), (O.k (V.int IntKind.i64 (Int.ofNat 0))), (O.k (V.int IntKind.i64 (Int.ofNat 8)))])), (I.mk (some 8) none false (X.v (A.un UnOp.not (O.t 7))))] []) A50_9) A50_10)
def A50 : AC := (AC.seq (AC.reg [.clr [1]] [(I.mk (some 1) none false (X.box (O.t 0))), (I.mk (some 2) none false (X.v (A.mov (O.k (V.bool false)))))] []) A50_8)
def an50 : List An := [{ id := 0, pre := [.clr [1]], ep := [] }, { id := 5, pre := [.clr [4]], ep := [] }]
theorem c50 : cC Try.prog Try.f50.ntmps an50 (Try.f50.body.getD .skip) = some A50 := by kernel_rfl
structure H50 (D : Den) (σ : Sig) (F : Nat) : Prop where
  c66 : ∀ x0 x1 x2 r, i_within F x0 x1 x2 = some r → D 66 [Enc.enc x0, Enc.enc x1, Enc.enc x2] = some (Enc.enc (r : Bool))
  g66 : σ 66 = some (0, false)
  c100 : ∀ x0 x1 r, slices_Compare F x0 x1 = some r → D 100 [Enc.enc x0, Enc.enc x1] = some (Enc.enc (r : Int))
  g100 : σ 100 = some (0, false)
abbrev R50 (r : Bool) : (Nat → V) → Prop := RR Try.prog [.tmp 2] 0 false (Enc.enc (r : Bool))
section
variable {D : Den} {σ : Sig} {F : Nat} {r : Bool}
def i_IsGraph_j1 (F : Nat) (g_1 : (Int × (List (Int × Int)))) (t12_9 : Int) (c1 : Int → Option Bool) (t48_19 : Bool) : Option Bool :=
  bif t48_19 then
    some false
  else
    c1 (w64 (t12_9 + 1))
theorem t_f50_j1 (H : H50 D σ F) (g_1 : (Int × (List (Int × Int)))) (t12_9 : Int) (c1 : Int → Option Bool) (Hc1 : ∀ (t12_9 : Int) (s : Nat → V), Facts [(1, (.ref (.bx 1) 0 [] (.agg [(.int .i64 g_1.1), (Enc.enc (g_1.2 : List (Int × Int)))]))), (2, (.bool false)), (10, (Enc.enc (g_1.2 : List (Int × Int)))), (11, (.int .i64 (g_1.2.length : Int))), (12, (.int .i64 t12_9))] s → c1 t12_9 = some r → Run D σ (R50 r) (.run A50_1 [.lp A50_1, .bk 0, .sq A50_7]) s) (t48_19 : Bool) (s : Nat → V) (hs : Facts [(1, (.ref (.bx 1) 0 [] (.agg [(.int .i64 g_1.1), (Enc.enc (g_1.2 : List (Int × Int)))]))), (2, (.bool false)), (10, (Enc.enc (g_1.2 : List (Int × Int)))), (11, (.int .i64 (g_1.2.length : Int))), (12, (.int .i64 t12_9)), (48, (.bool t48_19))] s) (h : i_IsGraph_j1 F g_1 t12_9 c1 t48_19 = some r) : Run D σ (R50 r) (.nrm [.sq A50_5, .bk 1, .sq A50_6, .lp A50_1, .bk 0, .sq A50_7]) s := by
  unfold i_IsGraph_j1 at h
  obtain ⟨h1, h2, h10, h11, h12, h48⟩ := hs
  refine .nsq ?_
  refine run_cond (t := t48_19) h48 h (fun h => ?_) (fun h => ?_)
  · refine .seq ?_
    refine run_reg ?_
    refine e_end ?_
    refine g_v0 (.bool false) rfl rfl ?_
    refine g_end ?_
    refine e_end ?_
    refine renew [(1, (.ref (.bx 1) 0 [] (.agg [(.int .i64 g_1.1), (Enc.enc (g_1.2 : List (Int × Int)))]))), (2, (.bool false)), (10, (Enc.enc (g_1.2 : List (Int × Int)))), (11, (.int .i64 (g_1.2.length : Int))), (12, (.int .i64 t12_9))] ⟨h1, rfl, h10, h11, h12⟩ ?_
    rintro s ⟨h1, h2, h10, h11, h12⟩
    refine .nsq ?_
    refine .ret ?_
    have hr := Option.some.inj h
    subst hr
    exact rrA (res_tmp h2) rfl
  · refine .skip ?_
    refine .nbk ?_
    refine .nsq ?_
    refine run_reg ?_
    refine e_end ?_
    refine g_v1 (t := 12) (u := (.int .i64 t12_9)) (.int .i64 (w64 (t12_9 + 1))) h12 rfl rfl ?_
    refine g_v1 (t := 49) (u := (.int .i64 (w64 (t12_9 + 1)))) (.int .i64 (w64 (t12_9 + 1))) rfl rfl rfl ?_
    refine g_end ?_
    refine e_end ?_
    refine renew [(1, (.ref (.bx 1) 0 [] (.agg [(.int .i64 g_1.1), (Enc.enc (g_1.2 : List (Int × Int)))]))), (2, (.bool false)), (10, (Enc.enc (g_1.2 : List (Int × Int)))), (11, (.int .i64 (g_1.2.length : Int))), (12, (.int .i64 (w64 (t12_9 + 1))))] ⟨h1, h2, h10, h11, rfl⟩ ?_
    rintro s ⟨h1, h2, h10, h11, h12⟩
    refine .nlp ?_
    exact Hc1 (w64 (t12_9 + 1)) _ ⟨h1, h2, h10, h11, h12⟩ h
def i_IsGraph_l1 (F : Nat) (g_1 : (Int × (List (Int × Int))))  : Nat → Int → Option Bool
  | 0, _ => none
  | k + 1, t12_9 =>
    bif decide (t12_9 < (g_1.2.length : Int)) then
      (idx g_1.2 t12_9).bind fun e_16 =>
      bif decide (e_16.1 < 0) then
        i_IsGraph_j1 F g_1 t12_9 (i_IsGraph_l1 F g_1 k) true
      else
        bif decide (e_16.1 ≥ e_16.2) then
          i_IsGraph_j1 F g_1 t12_9 (i_IsGraph_l1 F g_1 k) true
        else
          bif decide (e_16.2 ≥ g_1.1) then
            i_IsGraph_j1 F g_1 t12_9 (i_IsGraph_l1 F g_1 k) true
          else
            bif decide (t12_9 > 0) then
              (idx g_1.2 (w64 (t12_9 - 1))).bind fun e_20 =>
              (slices_Compare F [e_20.1, e_20.2] [e_16.1, e_16.2]).bind fun r_21 =>
              i_IsGraph_j1 F g_1 t12_9 (i_IsGraph_l1 F g_1 k) (decide (r_21 ≥ 0))
            else
              i_IsGraph_j1 F g_1 t12_9 (i_IsGraph_l1 F g_1 k) false
    else
      some true
theorem t_f50_l1 (H : H50 D σ F) (g_1 : (Int × (List (Int × Int))))  : ∀ (k : Nat) (t12_9 : Int) (s : Nat → V), Facts [(1, (.ref (.bx 1) 0 [] (.agg [(.int .i64 g_1.1), (Enc.enc (g_1.2 : List (Int × Int)))]))), (2, (.bool false)), (10, (Enc.enc (g_1.2 : List (Int × Int)))), (11, (.int .i64 (g_1.2.length : Int))), (12, (.int .i64 t12_9))] s → i_IsGraph_l1 F g_1 k t12_9 = some r → Run D σ (R50 r) (.run A50_1 [.lp A50_1, .bk 0, .sq A50_7]) s := by
  intro k
  induction k with
  | zero => intro t12_9 s _ h; exact nomatch (h : (none : Option _) = some r)
  | succ k ih =>
    intro t12_9 s hs h
    rw [i_IsGraph_l1] at h
    obtain ⟨h1, h2, h10, h11, h12⟩ := hs
    refine .seq ?_
    refine run_reg ?_
    refine e_end ?_
    refine g_v2 (t1 := 12) (t2 := 11) (u1 := (.int .i64 t12_9)) (u2 := (.int .i64 (g_1.2.length : Int))) (.bool (decide (t12_9 < (g_1.2.length : Int)))) h12 h11 rfl rfl ?_
    refine g_end ?_
    refine e_end ?_
    refine renew [(1, (.ref (.bx 1) 0 [] (.agg [(.int .i64 g_1.1), (Enc.enc (g_1.2 : List (Int × Int)))]))), (2, (.bool false)), (10, (Enc.enc (g_1.2 : List (Int × Int)))), (11, (.int .i64 (g_1.2.length : Int))), (12, (.int .i64 t12_9)), (13, (.bool (decide (t12_9 < (g_1.2.length : Int)))))] ⟨h1, h2, h10, h11, h12, rfl⟩ ?_
    rintro s ⟨h1, h2, h10, h11, h12, h13⟩
    refine .nsq ?_
    refine .seq ?_
    refine run_cond (t := decide (t12_9 < (g_1.2.length : Int))) h13 h (fun h => ?_) (fun h => ?_)
    · refine .skip ?_
      refine .nsq ?_
      refine .seq ?_
      refine .block ?_
      refine .seq ?_
      refine run_reg ?_
      refine e_clr ?_
      refine e_end ?_
      refine g_v1 (t := 12) (u := (.int .i64 t12_9)) (.int .i64 t12_9) (keep_clear (s := s) (pk := [4]) h12 rfl rfl) rfl rfl ?_
      obtain ⟨e_16, E_e_16, h⟩ := bind_some h
      refine g_v (.ref .sh 0 [] (.agg [(.int .i64 e_16.1), (.int .i64 e_16.2)])) (ev_idx (t := .sh) (lo := 0) (xs := g_1.2) (keep_clear (s := s) (pk := [4]) h10 rfl (Enc.map_enc _ (g_1.2 : List (Int × Int)))) (keep_clear (s := s) (pk := [4]) h12 rfl rfl) E_e_16 rfl rfl) ?_
      refine g_v1 (t := 15) (u := (.ref .sh 0 [] (.agg [(.int .i64 e_16.1), (.int .i64 e_16.2)]))) (.agg [(.int .i64 e_16.1), (.int .i64 e_16.2)]) rfl rfl rfl ?_
      refine g_alloc (gone_clear (s := s) (pk := [4]) (t := 4) rfl) ?_
      refine g_v1 (t := 14) (u := (.int .i64 t12_9)) (.int .i64 t12_9) rfl rfl rfl ?_
      refine g_store (.agg [(.int .i64 e_16.1), (.int .i64 e_16.2)]) (rd_of rfl rfl) (rd_of rfl rfl) (by refine ⟨by decide, by decide, rfl, rfl, rfl, ?_⟩; first | rfl | simp [V.toks, V.tokss, Enc.toks_enc]) ?_
      refine g_end ?_
      refine e_end ?_
      refine renew [(1, (.ref (.bx 1) 0 [] (.agg [(.int .i64 g_1.1), (Enc.enc (g_1.2 : List (Int × Int)))]))), (2, (.bool false)), (3, (.int .i64 t12_9)), (4, (.ref (.bx 4) 0 [] (.agg [(.int .i64 e_16.1), (.int .i64 e_16.2)]))), (10, (Enc.enc (g_1.2 : List (Int × Int)))), (11, (.int .i64 (g_1.2.length : Int))), (12, (.int .i64 t12_9))] ⟨(keep_mut (keep_clear (s := s) (pk := [4]) h1 rfl (map_bx rfl (map_agg (maps_cons rfl (maps_cons (Enc.map_enc _ (g_1.2 : List (Int × Int))) maps_nil))))) (mut_ref_ne rfl rfl (mut_agg (muts_cons rfl (muts_cons (Enc.mut_enc _ _ _ _ (g_1.2 : List (Int × Int))) rfl))))), (keep_mut (keep_clear (s := s) (pk := [4]) h2 rfl rfl) rfl), (keep_mut rfl rfl), (keep_mut rfl rfl), (keep_mut (keep_clear (s := s) (pk := [4]) h10 rfl (Enc.map_enc _ (g_1.2 : List (Int × Int)))) (Enc.mut_enc _ _ _ _ (g_1.2 : List (Int × Int)))), (keep_mut (keep_clear (s := s) (pk := [4]) h11 rfl rfl) rfl), (keep_mut (keep_clear (s := s) (pk := [4]) h12 rfl rfl) rfl)⟩ ?_
      rintro s ⟨h1, h2, h3, h4, h10, h11, h12⟩
      refine .nsq ?_
      refine .seq ?_
      refine run_reg ?_
      refine e_end ?_
      refine g_v1 (t := 4) (u := (.ref (.bx 4) 0 [] (.agg [(.int .i64 e_16.1), (.int .i64 e_16.2)]))) (.ref (.bx 4) 0 [0] (.int .i64 e_16.1)) h4 rfl rfl ?_
      refine g_v1 (t := 17) (u := (.ref (.bx 4) 0 [0] (.int .i64 e_16.1))) (.int .i64 e_16.1) rfl rfl rfl ?_
      refine g_v1 (t := 18) (u := (.int .i64 e_16.1)) (.bool (decide (e_16.1 < 0))) rfl rfl rfl ?_
      refine g_v1 (t := 19) (u := (.bool (decide (e_16.1 < 0)))) (.bool (decide (e_16.1 < 0))) rfl rfl rfl ?_
      refine split_on (c := decide (e_16.1 < 0)) h (fun hg4 h => ?_) (fun hg4 h => ?_)
      · refine g_no (Eq.trans (b := .bool (decide (e_16.1 < 0))) rfl (congrArg V.bool hg4)) ?_
        refine g_no (Eq.trans (b := .bool (decide (e_16.1 < 0))) rfl (congrArg V.bool hg4)) ?_
        refine g_no (Eq.trans (b := .bool (decide (e_16.1 < 0))) rfl (congrArg V.bool hg4)) ?_
        refine g_no (Eq.trans (b := .bool (decide (e_16.1 < 0))) rfl (congrArg V.bool hg4)) ?_
        refine g_no (Eq.trans (b := .bool (decide (e_16.1 < 0))) rfl (congrArg V.bool hg4)) ?_
        refine g_v2 (t1 := 20) (t2 := 25) (u1 := (.bool true)) (u2 := (.tup [])) (.bool true) (Eq.trans (b := .bool (decide (e_16.1 < 0))) rfl (congrArg V.bool hg4)) rfl rfl rfl ?_
        refine g_v1 (t := 26) (u := (.bool true)) (.bool true) rfl rfl rfl ?_
        refine g_no rfl ?_
        refine g_no rfl ?_
        refine g_no rfl ?_
        refine g_no rfl ?_
        refine g_no rfl ?_
        refine g_v2 (t1 := 27) (t2 := 32) (u1 := (.bool true)) (u2 := (.tup [])) (.bool true) rfl rfl rfl rfl ?_
        refine g_v1 (t := 33) (u := (.bool true)) (.bool true) rfl rfl rfl ?_
        refine g_no rfl ?_
        refine g_no rfl ?_
        refine g_no rfl ?_
        refine g_skip rfl ?_
        refine g_skip rfl ?_
        refine g_skip rfl ?_
        refine g_skip rfl ?_
        refine g_skip rfl ?_
        refine g_skip rfl ?_
        refine g_skip rfl ?_
        refine g_skip rfl ?_
        refine g_skip rfl ?_
        refine g_no rfl ?_
        refine g_v2 (t1 := 34) (t2 := 47) (u1 := (.bool true)) (u2 := (.tup [])) (.bool true) rfl rfl rfl rfl ?_
        refine g_end ?_
        refine e_end ?_
        refine renew [(1, (.ref (.bx 1) 0 [] (.agg [(.int .i64 g_1.1), (Enc.enc (g_1.2 : List (Int × Int)))]))), (2, (.bool false)), (10, (Enc.enc (g_1.2 : List (Int × Int)))), (11, (.int .i64 (g_1.2.length : Int))), (12, (.int .i64 t12_9)), (48, (.bool true))] ⟨h1, h2, h10, h11, h12, rfl⟩ ?_
        rintro s ⟨h1, h2, h10, h11, h12, h48⟩
        exact t_f50_j1 H g_1 t12_9 (i_IsGraph_l1 F g_1 k) ih true _ ⟨h1, h2, h10, h11, h12, h48⟩ h
      · refine g_yes (Eq.trans (b := .bool (decide (e_16.1 < 0))) rfl (congrArg V.bool hg4)) (g_v1 (t := 4) (u := (.ref (.bx 4) 0 [] (.agg [(.int .i64 e_16.1), (.int .i64 e_16.2)]))) (.ref (.bx 4) 0 [0] (.int .i64 e_16.1)) h4 rfl rfl ?_)
        refine g_yes (Eq.trans (b := .bool (decide (e_16.1 < 0))) rfl (congrArg V.bool hg4)) (g_v1 (t := 21) (u := (.ref (.bx 4) 0 [0] (.int .i64 e_16.1))) (.int .i64 e_16.1) rfl rfl rfl ?_)
        refine g_yes (Eq.trans (b := .bool (decide (e_16.1 < 0))) rfl (congrArg V.bool hg4)) (g_v1 (t := 4) (u := (.ref (.bx 4) 0 [] (.agg [(.int .i64 e_16.1), (.int .i64 e_16.2)]))) (.ref (.bx 4) 0 [1] (.int .i64 e_16.2)) h4 rfl rfl ?_)
        refine g_yes (Eq.trans (b := .bool (decide (e_16.1 < 0))) rfl (congrArg V.bool hg4)) (g_v1 (t := 23) (u := (.ref (.bx 4) 0 [1] (.int .i64 e_16.2))) (.int .i64 e_16.2) rfl rfl rfl ?_)
        refine g_yes (Eq.trans (b := .bool (decide (e_16.1 < 0))) rfl (congrArg V.bool hg4)) (g_v2 (t1 := 22) (t2 := 24) (u1 := (.int .i64 e_16.1)) (u2 := (.int .i64 e_16.2)) (.bool (decide (e_16.1 ≥ e_16.2))) rfl rfl rfl rfl ?_)
        refine g_v2 (t1 := 20) (t2 := 25) (u1 := (.bool false)) (u2 := (.bool (decide (e_16.1 ≥ e_16.2)))) (.bool (decide (e_16.1 ≥ e_16.2))) (Eq.trans (b := .bool (decide (e_16.1 < 0))) rfl (congrArg V.bool hg4)) rfl rfl rfl ?_
        refine g_v1 (t := 26) (u := (.bool (decide (e_16.1 ≥ e_16.2)))) (.bool (decide (e_16.1 ≥ e_16.2))) rfl rfl rfl ?_
        refine split_on (c := decide (e_16.1 ≥ e_16.2)) h (fun hg11 h => ?_) (fun hg11 h => ?_)
        · refine g_no (Eq.trans (b := .bool (decide (e_16.1 ≥ e_16.2))) rfl (congrArg V.bool hg11)) ?_
          refine g_no (Eq.trans (b := .bool (decide (e_16.1 ≥ e_16.2))) rfl (congrArg V.bool hg11)) ?_
          refine g_no (Eq.trans (b := .bool (decide (e_16.1 ≥ e_16.2))) rfl (congrArg V.bool hg11)) ?_
          refine g_no (Eq.trans (b := .bool (decide (e_16.1 ≥ e_16.2))) rfl (congrArg V.bool hg11)) ?_
          refine g_no (Eq.trans (b := .bool (decide (e_16.1 ≥ e_16.2))) rfl (congrArg V.bool hg11)) ?_
          refine g_v2 (t1 := 27) (t2 := 32) (u1 := (.bool true)) (u2 := (.tup [])) (.bool true) (Eq.trans (b := .bool (decide (e_16.1 ≥ e_16.2))) rfl (congrArg V.bool hg11)) rfl rfl rfl ?_
          refine g_v1 (t := 33) (u := (.bool true)) (.bool true) rfl rfl rfl ?_
          refine g_no rfl ?_
          refine g_no rfl ?_
          refine g_no rfl ?_
          refine g_skip rfl ?_
          refine g_skip rfl ?_
          refine g_skip rfl ?_
          refine g_skip rfl ?_
          refine g_skip rfl ?_
          refine g_skip rfl ?_
          refine g_skip rfl ?_
          refine g_skip rfl ?_
          refine g_skip rfl ?_
          refine g_no rfl ?_
          refine g_v2 (t1 := 34) (t2 := 47) (u1 := (.bool true)) (u2 := (.tup [])) (.bool true) rfl rfl rfl rfl ?_
          refine g_end ?_
          refine e_end ?_
          refine renew [(1, (.ref (.bx 1) 0 [] (.agg [(.int .i64 g_1.1), (Enc.enc (g_1.2 : List (Int × Int)))]))), (2, (.bool false)), (10, (Enc.enc (g_1.2 : List (Int × Int)))), (11, (.int .i64 (g_1.2.length : Int))), (12, (.int .i64 t12_9)), (48, (.bool true))] ⟨h1, h2, h10, h11, h12, rfl⟩ ?_
          rintro s ⟨h1, h2, h10, h11, h12, h48⟩
          exact t_f50_j1 H g_1 t12_9 (i_IsGraph_l1 F g_1 k) ih true _ ⟨h1, h2, h10, h11, h12, h48⟩ h
        · refine g_yes (Eq.trans (b := .bool (decide (e_16.1 ≥ e_16.2))) rfl (congrArg V.bool hg11)) (g_v1 (t := 4) (u := (.ref (.bx 4) 0 [] (.agg [(.int .i64 e_16.1), (.int .i64 e_16.2)]))) (.ref (.bx 4) 0 [1] (.int .i64 e_16.2)) h4 rfl rfl ?_)
          refine g_yes (Eq.trans (b := .bool (decide (e_16.1 ≥ e_16.2))) rfl (congrArg V.bool hg11)) (g_v1 (t := 28) (u := (.ref (.bx 4) 0 [1] (.int .i64 e_16.2))) (.int .i64 e_16.2) rfl rfl rfl ?_)
          refine g_yes (Eq.trans (b := .bool (decide (e_16.1 ≥ e_16.2))) rfl (congrArg V.bool hg11)) (g_v1 (t := 1) (u := (.ref (.bx 1) 0 [] (.agg [(.int .i64 g_1.1), (Enc.enc (g_1.2 : List (Int × Int)))]))) (.ref (.bx 1) 0 [0] (.int .i64 g_1.1)) h1 rfl rfl ?_)
          refine g_yes (Eq.trans (b := .bool (decide (e_16.1 ≥ e_16.2))) rfl (congrArg V.bool hg11)) (g_v1 (t := 30) (u := (.ref (.bx 1) 0 [0] (.int .i64 g_1.1))) (.int .i64 g_1.1) rfl rfl rfl ?_)
          refine g_yes (Eq.trans (b := .bool (decide (e_16.1 ≥ e_16.2))) rfl (congrArg V.bool hg11)) (g_v2 (t1 := 29) (t2 := 31) (u1 := (.int .i64 e_16.2)) (u2 := (.int .i64 g_1.1)) (.bool (decide (e_16.2 ≥ g_1.1))) rfl rfl rfl rfl ?_)
          refine g_v2 (t1 := 27) (t2 := 32) (u1 := (.bool false)) (u2 := (.bool (decide (e_16.2 ≥ g_1.1)))) (.bool (decide (e_16.2 ≥ g_1.1))) (Eq.trans (b := .bool (decide (e_16.1 ≥ e_16.2))) rfl (congrArg V.bool hg11)) rfl rfl rfl ?_
          refine g_v1 (t := 33) (u := (.bool (decide (e_16.2 ≥ g_1.1)))) (.bool (decide (e_16.2 ≥ g_1.1))) rfl rfl rfl ?_
          refine split_on (c := decide (e_16.2 ≥ g_1.1)) h (fun hg18 h => ?_) (fun hg18 h => ?_)
          · refine g_no (Eq.trans (b := .bool (decide (e_16.2 ≥ g_1.1))) rfl (congrArg V.bool hg18)) ?_
            refine g_no (Eq.trans (b := .bool (decide (e_16.2 ≥ g_1.1))) rfl (congrArg V.bool hg18)) ?_
            refine g_no (Eq.trans (b := .bool (decide (e_16.2 ≥ g_1.1))) rfl (congrArg V.bool hg18)) ?_
            refine g_skip rfl ?_
            refine g_skip rfl ?_
            refine g_skip rfl ?_
            refine g_skip rfl ?_
            refine g_skip rfl ?_
            refine g_skip rfl ?_
            refine g_skip rfl ?_
            refine g_skip rfl ?_
            refine g_skip rfl ?_
            refine g_no (Eq.trans (b := .bool (decide (e_16.2 ≥ g_1.1))) rfl (congrArg V.bool hg18)) ?_
            refine g_v2 (t1 := 34) (t2 := 47) (u1 := (.bool true)) (u2 := (.tup [])) (.bool true) (Eq.trans (b := .bool (decide (e_16.2 ≥ g_1.1))) rfl (congrArg V.bool hg18)) rfl rfl rfl ?_
            refine g_end ?_
            refine e_end ?_
            refine renew [(1, (.ref (.bx 1) 0 [] (.agg [(.int .i64 g_1.1), (Enc.enc (g_1.2 : List (Int × Int)))]))), (2, (.bool false)), (10, (Enc.enc (g_1.2 : List (Int × Int)))), (11, (.int .i64 (g_1.2.length : Int))), (12, (.int .i64 t12_9)), (48, (.bool true))] ⟨h1, h2, h10, h11, h12, rfl⟩ ?_
            rintro s ⟨h1, h2, h10, h11, h12, h48⟩
            exact t_f50_j1 H g_1 t12_9 (i_IsGraph_l1 F g_1 k) ih true _ ⟨h1, h2, h10, h11, h12, h48⟩ h
          · refine g_yes (Eq.trans (b := .bool (decide (e_16.2 ≥ g_1.1))) rfl (congrArg V.bool hg18)) (g_v1 (t := 3) (u := (.int .i64 t12_9)) (.int .i64 t12_9) h3 rfl rfl ?_)
            refine g_yes (Eq.trans (b := .bool (decide (e_16.2 ≥ g_1.1))) rfl (congrArg V.bool hg18)) (g_v1 (t := 35) (u := (.int .i64 t12_9)) (.bool (decide (t12_9 > 0))) rfl rfl rfl ?_)
            refine g_yes (Eq.trans (b := .bool (decide (e_16.2 ≥ g_1.1))) rfl (congrArg V.bool hg18)) (g_v1 (t := 36) (u := (.bool (decide (t12_9 > 0)))) (.bool (decide (t12_9 > 0))) rfl rfl rfl ?_)
            refine split_on (c := decide (t12_9 > 0)) h (fun hg21 h => ?_) (fun hg21 h => ?_)
            · refine g_yes (Eq.trans (b := .bool (decide (t12_9 > 0))) rfl (congrArg V.bool hg21)) (g_v1 (t := 1) (u := (.ref (.bx 1) 0 [] (.agg [(.int .i64 g_1.1), (Enc.enc (g_1.2 : List (Int × Int)))]))) (.ref (.bx 1) 0 [1] (Enc.enc (g_1.2 : List (Int × Int)))) h1 rfl rfl ?_)
              refine g_yes (Eq.trans (b := .bool (decide (t12_9 > 0))) rfl (congrArg V.bool hg21)) (g_v1 (t := 38) (u := (.ref (.bx 1) 0 [1] (Enc.enc (g_1.2 : List (Int × Int))))) (Enc.enc (g_1.2 : List (Int × Int))) rfl rfl rfl ?_)
              refine g_yes (Eq.trans (b := .bool (decide (t12_9 > 0))) rfl (congrArg V.bool hg21)) (g_v1 (t := 3) (u := (.int .i64 t12_9)) (.int .i64 t12_9) h3 rfl rfl ?_)
              refine g_yes (Eq.trans (b := .bool (decide (t12_9 > 0))) rfl (congrArg V.bool hg21)) (g_v1 (t := 40) (u := (.int .i64 t12_9)) (.int .i64 (w64 (t12_9 - 1))) rfl rfl rfl ?_)
              obtain ⟨e_20, E_e_20, h⟩ := bind_some h
              refine g_yes (Eq.trans (b := .bool (decide (t12_9 > 0))) rfl (congrArg V.bool hg21)) (g_v (.ref .sh 0 [] (.agg [(.int .i64 e_20.1), (.int .i64 e_20.2)])) (ev_idx (t := .sh) (lo := 0) (xs := g_1.2) rfl rfl E_e_20 rfl rfl) ?_)
              refine g_yes (Eq.trans (b := .bool (decide (t12_9 > 0))) rfl (congrArg V.bool hg21)) (g_v1 (t := 42) (u := (.ref .sh 0 [] (.agg [(.int .i64 e_20.1), (.int .i64 e_20.2)]))) (Enc.enc ([e_20.1, e_20.2] : List Int)) rfl rfl rfl ?_)
              refine g_yes (Eq.trans (b := .bool (decide (t12_9 > 0))) rfl (congrArg V.bool hg21)) (g_v1 (t := 4) (u := (.ref (.bx 4) 0 [] (.agg [(.int .i64 e_16.1), (.int .i64 e_16.2)]))) (encO (.bx 4) (.of ([e_16.1, e_16.2] : List Int))) h4 rfl rfl ?_)
              obtain ⟨r_21, E_r_21, h⟩ := bind_some h
              refine g_yes (Eq.trans (b := .bool (decide (t12_9 > 0))) rfl (congrArg V.bool hg21)) (g_call (m := 0) (al := false) (r := (Enc.enc (r_21 : Int))) [Enc.enc ([e_20.1, e_20.2] : (List Int)), Enc.enc ([e_16.1, e_16.2] : (List Int))] (ta_cons (v := (Enc.enc ([e_20.1, e_20.2] : List Int))) rfl rfl (Enc.erase_enc ([e_20.1, e_20.2] : (List Int))) (ta_cons (v := (encO (.bx 4) (.of ([e_16.1, e_16.2] : List Int)))) rfl rfl (erase_encO (o := .of [e_16.1, e_16.2])) ta_nil)) (H.c100 _ _ _ E_r_21) H.g100 rfl rfl rfl rfl ?_)
              refine g_yes (Eq.trans (b := .bool (decide (t12_9 > 0))) rfl (congrArg V.bool hg21)) (g_v1 (t := 45) (u := (.int .i64 r_21)) (.bool (decide (r_21 ≥ 0))) rfl rfl rfl ?_)
              refine g_yes (Eq.trans (b := .bool (decide (e_16.2 ≥ g_1.1))) rfl (congrArg V.bool hg18)) (g_v2 (t1 := 37) (t2 := 46) (u1 := (.bool true)) (u2 := (.bool (decide (r_21 ≥ 0)))) (.bool (decide (r_21 ≥ 0))) (Eq.trans (b := .bool (decide (t12_9 > 0))) rfl (congrArg V.bool hg21)) rfl rfl rfl ?_)
              refine g_v2 (t1 := 34) (t2 := 47) (u1 := (.bool false)) (u2 := (.bool (decide (r_21 ≥ 0)))) (.bool (decide (r_21 ≥ 0))) (Eq.trans (b := .bool (decide (e_16.2 ≥ g_1.1))) rfl (congrArg V.bool hg18)) rfl rfl rfl ?_
              refine g_end ?_
              refine e_end ?_
              refine renew [(1, (.ref (.bx 1) 0 [] (.agg [(.int .i64 g_1.1), (Enc.enc (g_1.2 : List (Int × Int)))]))), (2, (.bool false)), (10, (Enc.enc (g_1.2 : List (Int × Int)))), (11, (.int .i64 (g_1.2.length : Int))), (12, (.int .i64 t12_9)), (48, (.bool (decide (r_21 ≥ 0))))] ⟨h1, h2, h10, h11, h12, rfl⟩ ?_
              rintro s ⟨h1, h2, h10, h11, h12, h48⟩
              exact t_f50_j1 H g_1 t12_9 (i_IsGraph_l1 F g_1 k) ih (decide (r_21 ≥ 0)) _ ⟨h1, h2, h10, h11, h12, h48⟩ h
            · refine g_no (Eq.trans (b := .bool (decide (t12_9 > 0))) rfl (congrArg V.bool hg21)) ?_
              refine g_no (Eq.trans (b := .bool (decide (t12_9 > 0))) rfl (congrArg V.bool hg21)) ?_
              refine g_no (Eq.trans (b := .bool (decide (t12_9 > 0))) rfl (congrArg V.bool hg21)) ?_
              refine g_no (Eq.trans (b := .bool (decide (t12_9 > 0))) rfl (congrArg V.bool hg21)) ?_
              refine g_no (Eq.trans (b := .bool (decide (t12_9 > 0))) rfl (congrArg V.bool hg21)) ?_
              refine g_no (Eq.trans (b := .bool (decide (t12_9 > 0))) rfl (congrArg V.bool hg21)) ?_
              refine g_no (Eq.trans (b := .bool (decide (t12_9 > 0))) rfl (congrArg V.bool hg21)) ?_
              refine g_no (Eq.trans (b := .bool (decide (t12_9 > 0))) rfl (congrArg V.bool hg21)) ?_
              refine g_no (Eq.trans (b := .bool (decide (t12_9 > 0))) rfl (congrArg V.bool hg21)) ?_
              refine g_yes (Eq.trans (b := .bool (decide (e_16.2 ≥ g_1.1))) rfl (congrArg V.bool hg18)) (g_v2 (t1 := 37) (t2 := 46) (u1 := (.bool false)) (u2 := (.tup [])) (.bool false) (Eq.trans (b := .bool (decide (t12_9 > 0))) rfl (congrArg V.bool hg21)) rfl rfl rfl ?_)
              refine g_v2 (t1 := 34) (t2 := 47) (u1 := (.bool false)) (u2 := (.bool false)) (.bool false) (Eq.trans (b := .bool (decide (e_16.2 ≥ g_1.1))) rfl (congrArg V.bool hg18)) rfl rfl rfl ?_
              refine g_end ?_
              refine e_end ?_
              refine renew [(1, (.ref (.bx 1) 0 [] (.agg [(.int .i64 g_1.1), (Enc.enc (g_1.2 : List (Int × Int)))]))), (2, (.bool false)), (10, (Enc.enc (g_1.2 : List (Int × Int)))), (11, (.int .i64 (g_1.2.length : Int))), (12, (.int .i64 t12_9)), (48, (.bool false))] ⟨h1, h2, h10, h11, h12, rfl⟩ ?_
              rintro s ⟨h1, h2, h10, h11, h12, h48⟩
              exact t_f50_j1 H g_1 t12_9 (i_IsGraph_l1 F g_1 k) ih false _ ⟨h1, h2, h10, h11, h12, h48⟩ h
    · refine .exit ?_
      refine .esq ?_
      refine .elp ?_
      refine .ebk ?_
      refine .nsq ?_
      refine .seq ?_
      refine run_reg ?_
      refine e_end ?_
      refine g_v0 (.bool true) rfl rfl ?_
      refine g_end ?_
      refine e_end ?_
      refine renew [(2, (.bool true))] rfl ?_
      rintro s h2
      refine .nsq ?_
      refine .ret ?_
      have hr := Option.some.inj h
      subst hr
      exact rrA (res_tmp h2) rfl
def i_IsGraph (F : Nat) (g_1 : (Int × (List (Int × Int)))) : Option Bool :=
  (i_within F g_1.1 0 8).bind fun r_2 =>
  bif (!r_2) then
    some false
  else
    i_IsGraph_l1 F g_1 F 0
theorem t50 (H : H50 D σ F) (g_1 : (Int × (List (Int × Int)))) (s : Nat → V) (hs : Facts [(0, (.agg [(.int .i64 g_1.1), (Enc.enc (g_1.2 : List (Int × Int)))]))] s) (h : i_IsGraph F g_1 = some r) : Run D σ (R50 r) (.run A50 []) s := by
  unfold i_IsGraph at h
  have h0 := hs
  refine .seq ?_
  refine run_reg ?_
  refine e_clr ?_
  refine e_end ?_
  refine g_box (.agg [(.int .i64 g_1.1), (Enc.enc (g_1.2 : List (Int × Int)))]) (rd_of (keep_clear (s := s) (pk := [1]) h0 rfl (map_agg (maps_cons rfl (maps_cons (Enc.map_enc _ (g_1.2 : List (Int × Int))) maps_nil)))) rfl) (gone_clear (s := s) (pk := [1]) (t := 1) rfl) rfl ?_
  refine g_v0 (.bool false) rfl rfl ?_
  refine g_end ?_
  refine e_end ?_
  refine renew [(1, (.ref (.bx 1) 0 [] (.agg [(.int .i64 g_1.1), (Enc.enc (g_1.2 : List (Int × Int)))]))), (2, (.bool false))] ⟨rfl, rfl⟩ ?_
  rintro s ⟨h1, h2⟩
  refine .nsq ?_
  refine .seq ?_
  refine .seq ?_
  refine run_reg ?_
  refine e_end ?_
  refine g_v1 (t := 1) (u := (.ref (.bx 1) 0 [] (.agg [(.int .i64 g_1.1), (Enc.enc (g_1.2 : List (Int × Int)))]))) (.ref (.bx 1) 0 [0] (.int .i64 g_1.1)) h1 rfl rfl ?_
  refine g_v1 (t := 5) (u := (.ref (.bx 1) 0 [0] (.int .i64 g_1.1))) (.int .i64 g_1.1) rfl rfl rfl ?_
  obtain ⟨r_2, E_r_2, h⟩ := bind_some h
  refine g_call (m := 0) (al := false) (r := (Enc.enc (r_2 : Bool))) [Enc.enc (g_1.1 : Int), Enc.enc (0 : Int), Enc.enc (8 : Int)] (ta_cons (v := (.int .i64 g_1.1)) rfl rfl rfl (ta_cons (v := (.int .i64 0)) rfl rfl rfl (ta_cons (v := (.int .i64 8)) rfl rfl rfl ta_nil))) (H.c66 _ _ _ _ E_r_2) H.g66 rfl rfl rfl rfl ?_
  refine g_v1 (t := 7) (u := (.bool r_2)) (.bool (!r_2)) rfl rfl rfl ?_
  refine g_end ?_
  refine e_end ?_
  refine renew [(1, (.ref (.bx 1) 0 [] (.agg [(.int .i64 g_1.1), (Enc.enc (g_1.2 : List (Int × Int)))]))), (2, (.bool false)), (8, (.bool (!r_2)))] ⟨h1, h2, rfl⟩ ?_
  rintro s ⟨h1, h2, h8⟩
  refine .nsq ?_
  refine run_cond (t := (!r_2)) h8 h (fun h => ?_) (fun h => ?_)
  · refine .seq ?_
    refine run_reg ?_
    refine e_end ?_
    refine g_v0 (.bool false) rfl rfl ?_
    refine g_end ?_
    refine e_end ?_
    refine renew [(1, (.ref (.bx 1) 0 [] (.agg [(.int .i64 g_1.1), (Enc.enc (g_1.2 : List (Int × Int)))]))), (2, (.bool false))] ⟨h1, rfl⟩ ?_
    rintro s ⟨h1, h2⟩
    refine .nsq ?_
    refine .ret ?_
    have hr := Option.some.inj h
    subst hr
    exact rrA (res_tmp h2) rfl
  · refine .skip ?_
    refine .nsq ?_
    refine .seq ?_
    refine .seq ?_
    refine run_reg ?_
    refine e_end ?_
    refine g_v1 (t := 1) (u := (.ref (.bx 1) 0 [] (.agg [(.int .i64 g_1.1), (Enc.enc (g_1.2 : List (Int × Int)))]))) (.ref (.bx 1) 0 [1] (Enc.enc (g_1.2 : List (Int × Int)))) h1 rfl rfl ?_
    refine g_v1 (t := 9) (u := (.ref (.bx 1) 0 [1] (Enc.enc (g_1.2 : List (Int × Int))))) (Enc.enc (g_1.2 : List (Int × Int))) rfl rfl rfl ?_
    refine g_v (.int .i64 (g_1.2.length : Int)) (ev_len (xs := g_1.2) rfl) ?_
    refine g_v0 (.int .i64 0) rfl rfl ?_
    refine g_end ?_
    refine e_end ?_
    refine renew [(1, (.ref (.bx 1) 0 [] (.agg [(.int .i64 g_1.1), (Enc.enc (g_1.2 : List (Int × Int)))]))), (2, (.bool false)), (10, (Enc.enc (g_1.2 : List (Int × Int)))), (11, (.int .i64 (g_1.2.length : Int))), (12, (.int .i64 0))] ⟨h1, h2, rfl, rfl, rfl⟩ ?_
    rintro s ⟨h1, h2, h10, h11, h12⟩
    refine .nsq ?_
    refine .block ?_
    refine .loop ?_
    exact t_f50_l1 H g_1 F 0 _ ⟨h1, h2, h10, h11, h12⟩ h
end
def e50 (F : Nat) : Ent := ⟨50, dn1 (i_IsGraph F) (fun (r : Bool) => (Enc.enc (r : Bool))), 0, false⟩
theorem o50 {D : Den} {σ : Sig} {F : Nat} (hF : Fits2 Try.prog D σ) (H : H50 D σ F) : (e50 F).Ok Try.prog := by
  refine ⟨fun args r h => ?_, ⟨Try.f50, Try.func50, rfl, rfl⟩⟩
  obtain ⟨x0, y, rfl, hy, rfl⟩ := dn1_open h
  exact contract_run hF (by kernel_rfl) Try.func50 rfl c50 (show 1 ≤ Try.f50.ntmps by decide) (t50 H x0 _ rfl hy)
/- loop.example/g01109/impl.allWithin -/
def A101_5 : AC := (AC.cond (O.t 19) (AC.seq (AC.reg [] [(I.mk (some 6) none false (X.v (A.mov (O.k (V.bool false)))))] []) AC.ret) AC.skip)
def A101_4 : AC := (AC.seq (AC.reg [] [(I.mk (some 15) none false (X.v (A.mov (O.t 8)))), (I.mk (some 16) none false (X.v (A.mov (O.t 1)))), (I.mk (some 17) none false (X.v (A.mov (O.t 2)))), (I.mk (some 18) none false (X.call (O.k (V.fn 66 [] [])) [(O.t 15), (O.t 16), (O.t 17)])), (I.mk (some 19) none false (X.v (A.un UnOp.not (O.t 18))))] []) A101_5)
def A101_6 : AC := (AC.reg [] [(I.mk (some 20) none false (X.v (A.bin BinOp.add (O.t 11) (O.k (V.int IntKind.i64 (Int.ofNat 1)))))), (I.mk (some 11) none false (X.v (A.mov (O.t 20))))] [])
def A101_3 : AC := (AC.seq (AC.block 1 (AC.seq (AC.reg [] [(I.mk (some 13) none false (X.v (A.idx (O.t 9) (O.t 11) 1))), (I.mk (some 14) none false (X.v (A.load Sh.s (O.t 13)))), (I.mk (some 8) none false (X.v (A.mov (O.t 14))))] []) A101_4)) A101_6)
def A101_2 : AC := (AC.seq (AC.cond (O.t 12) AC.skip (AC.exit 0)) A101_3)
def A101_1 : AC := (AC.seq (AC.reg [] [(I.mk (some 12) none false (X.v (A.bin BinOp.lss (O.t 11) (O.t 10))))] []) A101_2)
def A101_7 : AC := (AC.seq (AC.reg [] [(I.mk (some 6) none false (X.v (A.mov (O.k (V.bool true)))))] []) AC.ret)
def A101_9 : AC := (AC.block 0 (AC.loop A101_1))
def A101_8 : AC := (AC.seq (AC.seq (AC.reg [] [(I.mk (some 9) none false (X.v (A.mov (O.t 0)))), (I.mk (some 10) none false (X.v (A.len (O.t 9)))), (I.mk (some 11) none false (X.v (A.mov (O.k (V.int IntKind.i64 (Int.ofNat 0))))))] []) A101_9) A101_7)
def A101 : AC := (AC.seq (AC.reg [] [(I.mk (some 6) none false (X.v (A.mov (O.k (V.bool false)))))] []) A101_8)
def an101 : List An := []
theorem c101 : cC Try.prog Try.f101.ntmps an101 (Try.f101.body.getD .skip) = some A101 := by kernel_rfl
structure H101 (D : Den) (σ : Sig) (F : Nat) : Prop where
  c66 : ∀ x0 x1 x2 r, i_within F x0 x1 x2 = some r → D 66 [Enc.enc x0, Enc.enc x1, Enc.enc x2] = some (Enc.enc (r : Bool))
  g66 : σ 66 = some (0, false)
abbrev R101 (r : Bool) : (Nat → V) → Prop := RR Try.prog [.tmp 6] 0 false (Enc.enc (r : Bool))
section
variable {D : Den} {σ : Sig} {F : Nat} {r : Bool}
def i_allWithin_l1 (F : Nat) (low_2 : Int) (high_3 : Int) (list_1 : (List Int))  : Nat → Int → Option Bool
  | 0, _ => none
  | k + 1, t11_6 =>
    bif decide (t11_6 < (list_1.length : Int)) then
      (idx list_1 t11_6).bind fun e_9 =>
      (i_within F e_9 low_2 high_3).bind fun r_10 =>
      bif (!r_10) then
        some false
      else
        (i_allWithin_l1 F low_2 high_3 list_1 k) (w64 (t11_6 + 1))
    else
      some true
theorem t_f101_l1 (H : H101 D σ F) (low_2 : Int) (high_3 : Int) (list_1 : (List Int))  : ∀ (k : Nat) (t11_6 : Int) (s : Nat → V), Facts [(1, (.int .i64 low_2)), (2, (.int .i64 high_3)), (6, (.bool false)), (9, (Enc.enc (list_1 : List Int))), (10, (.int .i64 (list_1.length : Int))), (11, (.int .i64 t11_6))] s → i_allWithin_l1 F low_2 high_3 list_1 k t11_6 = some r → Run D σ (R101 r) (.run A101_1 [.lp A101_1, .bk 0, .sq A101_7]) s := by
  intro k
  induction k with
  | zero => intro t11_6 s _ h; exact nomatch (h : (none : Option _) = some r)
  | succ k ih =>
    intro t11_6 s hs h
    rw [i_allWithin_l1] at h
    obtain ⟨h1, h2, h6, h9, h10, h11⟩ := hs
    refine .seq ?_
    refine run_reg ?_
    refine e_end ?_
    refine g_v2 (t1 := 11) (t2 := 10) (u1 := (.int .i64 t11_6)) (u2 := (.int .i64 (list_1.length : Int))) (.bool (decide (t11_6 < (list_1.length : Int)))) h11 h10 rfl rfl ?_
    refine g_end ?_
    refine e_end ?_
    refine renew [(1, (.int .i64 low_2)), (2, (.int .i64 high_3)), (6, (.bool false)), (9, (Enc.enc (list_1 : List Int))), (10, (.int .i64 (list_1.length : Int))), (11, (.int .i64 t11_6)), (12, (.bool (decide (t11_6 < (list_1.length : Int)))))] ⟨h1, h2, h6, h9, h10, h11, rfl⟩ ?_
    rintro s ⟨h1, h2, h6, h9, h10, h11, h12⟩
    refine .nsq ?_
    refine .seq ?_
    refine run_cond (t := decide (t11_6 < (list_1.length : Int))) h12 h (fun h => ?_) (fun h => ?_)
    · refine .skip ?_
      refine .nsq ?_
      refine .seq ?_
      refine .block ?_
      refine .seq ?_
      refine run_reg ?_
      refine e_end ?_
      obtain ⟨e_9, E_e_9, h⟩ := bind_some h
      refine g_v (.ref .sh 0 [] (.int .i64 e_9)) (ev_idx (t := .sh) (lo := 0) (xs := list_1) h9 h11 E_e_9 rfl rfl) ?_
      refine g_v1 (t := 13) (u := (.ref .sh 0 [] (.int .i64 e_9))) (.int .i64 e_9) rfl rfl rfl ?_
      refine g_v1 (t := 14) (u := (.int .i64 e_9)) (.int .i64 e_9) rfl rfl rfl ?_
      refine g_end ?_
      refine e_end ?_
      refine renew [(1, (.int .i64 low_2)), (2, (.int .i64 high_3)), (6, (.bool false)), (8, (.int .i64 e_9)), (9, (Enc.enc (list_1 : List Int))), (10, (.int .i64 (list_1.length : Int))), (11, (.int .i64 t11_6))] ⟨h1, h2, h6, rfl, h9, h10, h11⟩ ?_
      rintro s ⟨h1, h2, h6, h8, h9, h10, h11⟩
      refine .nsq ?_
      refine .seq ?_
      refine run_reg ?_
      refine e_end ?_
      refine g_v1 (t := 8) (u := (.int .i64 e_9)) (.int .i64 e_9) h8 rfl rfl ?_
      refine g_v1 (t := 1) (u := (.int .i64 low_2)) (.int .i64 low_2) h1 rfl rfl ?_
      refine g_v1 (t := 2) (u := (.int .i64 high_3)) (.int .i64 high_3) h2 rfl rfl ?_
      obtain ⟨r_10, E_r_10, h⟩ := bind_some h
      refine g_call (m := 0) (al := false) (r := (Enc.enc (r_10 : Bool))) [Enc.enc (e_9 : Int), Enc.enc (low_2 : Int), Enc.enc (high_3 : Int)] (ta_cons (v := (.int .i64 e_9)) rfl rfl rfl (ta_cons (v := (.int .i64 low_2)) rfl rfl rfl (ta_cons (v := (.int .i64 high_3)) rfl rfl rfl ta_nil))) (H.c66 _ _ _ _ E_r_10) H.g66 rfl rfl rfl rfl ?_
      refine g_v1 (t := 18) (u := (.bool r_10)) (.bool (!r_10)) rfl rfl rfl ?_
      refine g_end ?_
      refine e_end ?_
      refine renew [(1, (.int .i64 low_2)), (2, (.int .i64 high_3)), (6, (.bool false)), (9, (Enc.enc (list_1 : List Int))), (10, (.int .i64 (list_1.length : Int))), (11, (.int .i64 t11_6)), (19, (.bool (!r_10)))] ⟨h1, h2, h6, h9, h10, h11, rfl⟩ ?_
      rintro s ⟨h1, h2, h6, h9, h10, h11, h19⟩
      refine .nsq ?_
      refine run_cond (t := (!r_10)) h19 h (fun h => ?_) (fun h => ?_)
      · refine .seq ?_
        refine run_reg ?_
        refine e_end ?_
        refine g_v0 (.bool false) rfl rfl ?_
        refine g_end ?_
        refine e_end ?_
        refine renew [(1, (.int .i64 low_2)), (2, (.int .i64 high_3)), (6, (.bool false)), (9, (Enc.enc (list_1 : List Int))), (10, (.int .i64 (list_1.length : Int))), (11, (.int .i64 t11_6))] ⟨h1, h2, rfl, h9, h10, h11⟩ ?_
        rintro s ⟨h1, h2, h6, h9, h10, h11⟩
        refine .nsq ?_
        refine .ret ?_
        have hr := Option.some.inj h
        subst hr
        exact rrA (res_tmp h6) rfl
      · refine .skip ?_
        refine .nbk ?_
        refine .nsq ?_
        refine run_reg ?_
        refine e_end ?_
        refine g_v1 (t := 11) (u := (.int .i64 t11_6)) (.int .i64 (w64 (t11_6 + 1))) h11 rfl rfl ?_
        refine g_v1 (t := 20) (u := (.int .i64 (w64 (t11_6 + 1)))) (.int .i64 (w64 (t11_6 + 1))) rfl rfl rfl ?_
        refine g_end ?_
        refine e_end ?_
        refine renew [(1, (.int .i64 low_2)), (2, (.int .i64 high_3)), (6, (.bool false)), (9, (Enc.enc (list_1 : List Int))), (10, (.int .i64 (list_1.length : Int))), (11, (.int .i64 (w64 (t11_6 + 1))))] ⟨h1, h2, h6, h9, h10, rfl⟩ ?_
        rintro s ⟨h1, h2, h6, h9, h10, h11⟩
        refine .nlp ?_
        exact ih (w64 (t11_6 + 1)) _ ⟨h1, h2, h6, h9, h10, h11⟩ h
    · refine .exit ?_
      refine .esq ?_
      refine .elp ?_
      refine .ebk ?_
      refine .nsq ?_
      refine .seq ?_
      refine run_reg ?_
      refine e_end ?_
      refine g_v0 (.bool true) rfl rfl ?_
      refine g_end ?_
      refine e_end ?_
      refine renew [(6, (.bool true))] rfl ?_
      rintro s h6
      refine .nsq ?_
      refine .ret ?_
      have hr := Option.some.inj h
      subst hr
      exact rrA (res_tmp h6) rfl
def i_allWithin (F : Nat) (list_1 : (List Int)) (low_2 : Int) (high_3 : Int) : Option Bool :=
  i_allWithin_l1 F low_2 high_3 list_1 F 0
theorem t101 (H : H101 D σ F) (list_1 : (List Int)) (low_2 : Int) (high_3 : Int) (s : Nat → V) (hs : Facts [(0, (Enc.enc (list_1 : List Int))), (1, (.int .i64 low_2)), (2, (.int .i64 high_3))] s) (h : i_allWithin F list_1 low_2 high_3 = some r) : Run D σ (R101 r) (.run A101 []) s := by
  unfold i_allWithin at h
  obtain ⟨h0, h1, h2⟩ := hs
  refine .seq ?_
  refine run_reg ?_
  refine e_end ?_
  refine g_v0 (.bool false) rfl rfl ?_
  refine g_end ?_
  refine e_end ?_
  refine renew [(0, (Enc.enc (list_1 : List Int))), (1, (.int .i64 low_2)), (2, (.int .i64 high_3)), (6, (.bool false))] ⟨h0, h1, h2, rfl⟩ ?_
  rintro s ⟨h0, h1, h2, h6⟩
  refine .nsq ?_
  refine .seq ?_
  refine .seq ?_
  refine run_reg ?_
  refine e_end ?_
  refine g_v1 (t := 0) (u := (Enc.enc (list_1 : List Int))) (Enc.enc (list_1 : List Int)) h0 rfl rfl ?_
  refine g_v (.int .i64 (list_1.length : Int)) (ev_len (xs := list_1) rfl) ?_
  refine g_v0 (.int .i64 0) rfl rfl ?_
  refine g_end ?_
  refine e_end ?_
  refine renew [(1, (.int .i64 low_2)), (2, (.int .i64 high_3)), (6, (.bool false)), (9, (Enc.enc (list_1 : List Int))), (10, (.int .i64 (list_1.length : Int))), (11, (.int .i64 0))] ⟨h1, h2, h6, rfl, rfl, rfl⟩ ?_
  rintro s ⟨h1, h2, h6, h9, h10, h11⟩
  refine .nsq ?_
  refine .block ?_
  refine .loop ?_
  exact t_f101_l1 H low_2 high_3 list_1 F 0 _ ⟨h1, h2, h6, h9, h10, h11⟩ h
end
def e101 (F : Nat) : Ent := ⟨101, dn3 (i_allWithin F) (fun (r : Bool) => (Enc.enc (r : Bool))), 0, false⟩
theorem o101 {D : Den} {σ : Sig} {F : Nat} (hF : Fits2 Try.prog D σ) (H : H101 D σ F) : (e101 F).Ok Try.prog := by
  refine ⟨fun args r h => ?_, ⟨Try.f101, Try.func101, rfl, rfl⟩⟩
  obtain ⟨x0, x1, x2, y, rfl, hy, rfl⟩ := dn3_open h
  exact contract_run hF (by kernel_rfl) Try.func101 rfl c101 (show 3 ≤ Try.f101.ntmps by decide) (t101 H x0 x1 x2 _ ⟨rfl, rfl, rfl⟩ hy)
/- loop.example/g01109/impl.forestLists -/
def A51_7 : AC := (AC.cond (O.t 37) AC.skip (AC.exit 2))
def A51_9 : AC := (AC.cond (O.t 54) (AC.seq (AC.reg [] [(I.mk (some 4) none false (X.v (A.mov (O.k (V.sl Tok.nl Sh.s 0 []))))), (I.mk (some 5) none false (X.v (A.mov (O.k (V.bool false)))))] []) AC.ret) AC.skip)
def A51_10 : AC := (AC.reg [] [(I.mk (some 55) none false (X.v (A.mov (O.t 6)))), (I.mk (some 56) none false (X.v (A.mov (O.t 7)))), (I.mk (some 57) none false (X.v (A.idx (O.t 55) (O.t 56) 1))), (I.mk (some 58) none false (X.v (A.load Sh.s (O.t 57)))), (I.mk (some 59) none false (X.v (A.mov (O.t 8)))), (I.mk (some 60) none false (X.v (A.bin BinOp.shl (O.k (V.int IntKind.i64 (Int.ofNat 1))) (O.t 59)))), (I.mk (some 61) none false (X.v (A.bin BinOp.or (O.t 58) (O.t 60)))), (I.mk (some 62) none false (X.v (A.idx (O.t 55) (O.t 56) 1))), (I.mk none none false (X.store Sh.s (O.t 62) (O.t 61)))] [])
def A51_11 : AC := (AC.reg [] [(I.mk (some 38) none false (X.v (A.mov (O.t 1)))), (I.mk (some 39) none false (X.v (A.mov (O.t 8)))), (I.mk (some 40) none false (X.v (A.idx (O.t 38) (O.t 39) 1))), (I.mk (some 41) none false (X.v (A.load Sh.s (O.t 40)))), (I.mk (some 8) none false (X.v (A.mov (O.t 41))))] [])
def A51_8 : AC := (AC.seq (AC.block 3 (AC.seq (AC.seq (AC.reg [] [(I.mk (some 42) none false (X.v (A.mov (O.t 8)))), (I.mk (some 43) none false (X.v (A.mov (O.t 7)))), (I.mk (some 44) none false (X.v (A.bin BinOp.eql (O.t 42) (O.t 43)))), (I.mk (some 45) none false (X.v (A.mov (O.t 44)))), (I.mk (some 46) (some (45, false)) false (X.v (A.mov (O.t 6)))), (I.mk (some 47) (some (45, false)) false (X.v (A.mov (O.t 7)))), (I.mk (some 48) (some (45, false)) false (X.v (A.idx (O.t 46) (O.t 47) 1))), (I.mk (some 49) (some (45, false)) false (X.v (A.load Sh.s (O.t 48)))), (I.mk (some 50) (some (45, false)) false (X.v (A.mov (O.t 8)))), (I.mk (some 51) (some (45, false)) false (X.v (A.bin BinOp.shr (O.t 49) (O.t 50)))), (I.mk (some 52) (some (45, false)) false (X.v (A.bin BinOp.and (O.t 51) (O.k (V.int IntKind.i64 (Int.ofNat 1)))))), (I.mk (some 53) (some (45, false)) false (X.v (A.bin BinOp.eql (O.t 52) (O.k (V.int IntKind.i64 (Int.ofNat 1)))))), (I.mk (some 54) none false (X.v (A.pick (O.t 45) (O.k (V.bool true)) (O.t 53))))] []) A51_9) A51_10)) A51_11)
def A51_6 : AC := (AC.seq (AC.seq (AC.reg [] [(I.mk (some 36) none false (X.v (A.mov (O.t 8)))), (I.mk (some 37) none false (X.v (A.bin BinOp.geq (O.t 36) (O.k (V.int IntKind.i64 (Int.ofNat 0))))))] []) A51_7) A51_8)
def A51_5 : AC := (AC.block 2 (AC.loop A51_6))
def A51_4 : AC := (AC.seq (AC.reg [] [(I.mk (some 32) none false (X.v (A.mov (O.t 1)))), (I.mk (some 33) none false (X.v (A.mov (O.t 7)))), (I.mk (some 34) none false (X.v (A.idx (O.t 32) (O.t 33) 1))), (I.mk (some 35) none false (X.v (A.load Sh.s (O.t 34)))), (I.mk (some 8) none false (X.v (A.mov (O.t 35))))] []) A51_5)
def A51_12 : AC := (AC.reg [] [(I.mk (some 63) none false (X.v (A.bin BinOp.add (O.t 29) (O.k (V.int IntKind.i64 (Int.ofNat 1)))))), (I.mk (some 29) none false (X.v (A.mov (O.t 63))))] [])
def A51_3 : AC := (AC.seq (AC.block 1 (AC.seq (AC.reg [] [(I.mk (some 31) none false (X.v (A.mov (O.t 29)))), (I.mk (some 7) none false (X.v (A.mov (O.t 31))))] []) A51_4)) A51_12)
def A51_2 : AC := (AC.seq (AC.cond (O.t 30) AC.skip (AC.exit 0)) A51_3)
def A51_1 : AC := (AC.seq (AC.reg [] [(I.mk (some 30) none false (X.v (A.bin BinOp.lss (O.t 29) (O.t 28))))] []) A51_2)
def A51_19 : AC := (AC.cond (O.t 92) (AC.seq (AC.reg [] [(I.mk (some 4) none false (X.v (A.mov (O.k (V.sl Tok.nl Sh.s 0 []))))), (I.mk (some 5) none false (X.v (A.mov (O.k (V.bool false)))))] []) AC.ret) AC.skip)
def A51_18 : AC := (AC.seq (AC.reg [] [(I.mk (some 71) none false (X.v (A.mov (O.t 6)))), (I.mk (some 72) none false (X.v (A.idxA (O.t 10) (O.k (V.int IntKind.i64 (Int.ofNat 0))) 2 1))), (I.mk (some 73) none false (X.v (A.load Sh.s (O.t 72)))), (I.mk (some 74) none false (X.v (A.idx (O.t 71) (O.t 73) 1))), (I.mk (some 75) none false (X.v (A.load Sh.s (O.t 74)))), (I.mk (some 76) none false (X.v (A.idxA (O.t 10) (O.k (V.int IntKind.i64 (Int.ofNat 1))) 2 1))), (I.mk (some 77) none false (X.v (A.load Sh.s (O.t 76)))), (I.mk (some 78) none false (X.v (A.bin BinOp.shr (O.t 75) (O.t 77)))), (I.mk (some 79) none false (X.v (A.bin BinOp.and (O.t 78) (O.k (V.int IntKind.i64 (Int.ofNat 1)))))), (I.mk (some 80) none false (X.v (A.bin BinOp.eql (O.t 79) (O.k (V.int IntKind.i64 (Int.ofNat 0)))))), (I.mk (some 81) none false (X.v (A.mov (O.t 80)))), (I.mk (some 82) (some (81, true)) false (X.v (A.mov (O.t 6)))), (I.mk (some 83) (some (81, true)) false (X.v (A.idxA (O.t 10) (O.k (V.int IntKind.i64 (Int.ofNat 1))) 2 1))), (I.mk (some 84) (some (81, true)) false (X.v (A.load Sh.s (O.t 83)))), (I.mk (some 85) (some (81, true)) false (X.v (A.idx (O.t 82) (O.t 84) 1))), (I.mk (some 86) (some (81, true)) false (X.v (A.load Sh.s (O.t 85)))), (I.mk (some 87) (some (81, true)) false (X.v (A.idxA (O.t 10) (O.k (V.int IntKind.i64 (Int.ofNat 0))) 2 1))), (I.mk (some 88) (some (81, true)) false (X.v (A.load Sh.s (O.t 87)))), (I.mk (some 89) (some (81, true)) false (X.v (A.bin BinOp.shr (O.t 86) (O.t 88)))), (I.mk (some 90) (some (81, true)) false (X.v (A.bin BinOp.and (O.t 89) (O.k (V.int IntKind.i64 (Int.ofNat 1)))))), (I.mk (some 91) (some (81, true)) false (X.v (A.bin BinOp.eql (O.t 90) (O.k (V.int IntKind.i64 (Int.ofNat 0)))))), (I.mk (some 92) none false (X.v (A.pick (O.t 81) (O.t 91) (O.k (V.bool false)))))] []) A51_19)
def A51_20 : AC := (AC.reg [] [(I.mk (some 93) none false (X.v (A.bin BinOp.add (O.t 67) (O.k (V.int IntKind.i64 (Int.ofNat 1)))))), (I.mk (some 67) none false (X.v (A.mov (O.t 93))))] [])
def A51_17 : AC := (AC.seq (AC.block 5 (AC.seq (AC.reg [.clr [10]] [(I.mk (some 69) none false (X.v (A.idx (O.t 65) (O.t 67) 2))), (I.mk (some 70) none false (X.v (A.load (Sh.ag [Sh.s, Sh.s]) (O.t 69)))), (I.mk (some 10) none false (X.alloc (V.agg [(V.int IntKind.i64 (Int.ofNat 0)), (V.int IntKind.i64 (Int.ofNat 0))]))), (I.mk none none false (X.store (Sh.ag [Sh.s, Sh.s]) (O.t 10) (O.t 70)))] []) A51_18)) A51_20)
def A51_16 : AC := (AC.seq (AC.cond (O.t 68) AC.skip (AC.exit 4)) A51_17)
def A51_15 : AC := (AC.seq (AC.reg [] [(I.mk (some 68) none false (X.v (A.bin BinOp.lss (O.t 67) (O.t 66))))] []) A51_16)
def A51_14 : AC := (AC.block 4 (AC.loop A51_15))
def A51_21 : AC := (AC.seq (AC.reg [] [(I.mk (some 94) none false (X.v (A.mov (O.t 6)))), (I.mk (some 4) none false (X.v (A.mov (O.t 94)))), (I.mk (some 5) none false (X.v (A.mov (O.k (V.bool true)))))] [.home 6 4]) AC.ret)
def A51_13 : AC := (AC.seq (AC.seq (AC.reg [] [(I.mk (some 64) none false (X.v (A.fld (O.t 2) 1 1))), (I.mk (some 65) none false (X.v (A.load Sh.p (O.t 64)))), (I.mk (some 66) none false (X.v (A.len (O.t 65)))), (I.mk (some 67) none false (X.v (A.mov (O.k (V.int IntKind.i64 (Int.ofNat 0))))))] []) A51_14) A51_21)
def A51_22 : AC := (AC.cond (O.t 23) (AC.seq (AC.reg [] [(I.mk (some 4) none false (X.v (A.mov (O.k (V.sl Tok.nl Sh.s 0 []))))), (I.mk (some 5) none false (X.v (A.mov (O.k (V.bool false)))))] []) AC.ret) AC.skip)
def A51_25 : AC := (AC.block 0 (AC.loop A51_1))
def A51_24 : AC := (AC.seq (AC.seq (AC.reg [] [(I.mk (some 27) none false (X.v (A.mov (O.t 6)))), (I.mk (some 28) none false (X.v (A.len (O.t 27)))), (I.mk (some 29) none false (X.v (A.mov (O.k (V.int IntKind.i64 (Int.ofNat 0))))))] []) A51_25) A51_13)
def A51_23 : AC := (AC.seq (AC.reg [.clr [26]] [(I.mk (some 24) none false (X.v (A.fld (O.t 2) 0 0))), (I.mk (some 25) none false (X.v (A.load Sh.s (O.t 24)))), (I.mk (some 26) none false (X.mk (O.t 25) (V.int IntKind.i64 (Int.ofNat 0)))), (I.mk (some 6) none false (X.v (A.mov (O.t 26))))] [.home 26 6]) A51_24)
def A51_26 : AC := (AC.seq (AC.seq (AC.reg [] [(I.mk (some 11) none false (X.v (A.mov (O.t 1)))), (I.mk (some 12) none false (X.v (A.len (O.t 11)))), (I.mk (some 13) none false (X.v (A.fld (O.t 2) 0 0))), (I.mk (some 14) none false (X.v (A.load Sh.s (O.t 13)))), (I.mk (some 15) none false (X.v (A.bin BinOp.neq (O.t 12) (O.t 14)))), (I.mk (some 16) none false (X.v (A.mov (O.t 15)))), (I.mk (some 17) (some (16, false)) false (X.v (A.mov (O.t 1)))), (I.mk (some 18) (some (16, false)) false (X.v (A.fld (O.t 2) 0 0))), (I.mk (some 19) (some (16, false)) false (X.v (A.load Sh.s (O.t 18)))), (I.mk (some 20) (some (16, false)) false (X.v (A.bin BinOp.sub (O.t 19) (O.k (V.int IntKind.i64 (Int.ofNat 1)))))), (I.mk (some 21) (some (16, false)) false (X.call (O.k (V.fn 101 [] [])) [(O.t 17), (O.k (V.int IntKind.i64 (Int.negSucc 0))), (O.t 20)])), (I.mk (some 22) (some (16, false)) false (X.v (A.un UnOp.not (O.t 21)))), (I.mk (some 23) none false (X.v (A.pick (O.t 16) (O.k (V.bool true)) (O.t 22))))] []) A51_22) A51_23)
def A51 : AC := (AC.seq (AC.reg [.clr [2]] [(I.mk (some 2) none false (X.box (O.t 0))), (I.mk (some 4) none false (X.v (A.mov (O.k (V.sl Tok.nl Sh.s 0 []))))), (I.mk (some 5) none false (X.v (A.mov (O.k (V.bool false)))))] []) A51_26)
def an51 : List An := [{ id := 0, pre := [.clr [2]], ep := [] }, { id := 3, pre := [.clr [26]], ep := [.home 26 6] }, { id := 16, pre := [.clr [10]], ep := [] }, { id := 20, pre := [], ep := [.home 6 4] }]
theorem c51 : cC Try.prog Try.f51.ntmps an51 (Try.f51.body.getD .skip) = some A51 := by kernel_rfl
structure H51 (D : Den) (σ : Sig) (F : Nat) : Prop where
  c101 : ∀ x0 x1 x2 r, i_allWithin F x0 x1 x2 = some r → D 101 [Enc.enc x0, Enc.enc x1, Enc.enc x2] = some (Enc.enc (r : Bool))
  g101 : σ 101 = some (0, false)
abbrev R51 (r : ((List Int) × Bool)) : (Nat → V) → Prop := RR Try.prog [.tmp 4, .tmp 5] 0 true (.tup [Enc.enc (r.1 : (List Int)), Enc.enc (r.2 : Bool)])
section
variable {D : Den} {σ : Sig} {F : Nat} {r : ((List Int) × Bool)}
def i_forestLists_j1 (F : Nat) (parents_2 : (List Int)) (g_1 : (Int × (List (Int × Int)))) (above_78 : (List Int)) (t29_37 : Int) (up_79 : Int) (mk_5 : (List Int)) (c1 : (List Int) → Int → Option ((List Int) × Bool)) (c4 : (List Int) → Int → Option ((List Int) × Bool)) (t54_91 : Bool) : Option ((List Int) × Bool) :=
  bif t54_91 then
    some ([], false)
  else
    (idx above_78 t29_37).bind fun e_92 =>
    (shlI .i64 1 up_79).bind fun q_93 =>
    (idx above_78 t29_37).bind fun e_94 =>
    (idx parents_2 up_79).bind fun e_95 =>
    c4 (above_78.set t29_37.toNat (ior .i64 e_92 q_93)) e_95
theorem t_f51_j1 (H : H51 D σ F) (parents_2 : (List Int)) (g_1 : (Int × (List (Int × Int)))) (above_78 : (List Int)) (t29_37 : Int) (up_79 : Int) (mk_5 : (List Int)) (c1 : (List Int) → Int → Option ((List Int) × Bool)) (Hc1 : ∀ (above_36 : (List Int)) (t29_37 : Int) (s : Nat → V), Facts [(1, (Enc.enc (parents_2 : List Int))), (2, (.ref (.bx 2) 0 [] (.agg [(.int .i64 g_1.1), (Enc.enc (g_1.2 : List (Int × Int)))]))), (4, (.sl .nl (Enc.shp Int) 0 [])), (5, (.bool false)), (6, (encO (.at 6 []) (.of (above_36 : List Int)))), (28, (.int .i64 (mk_5.length : Int))), (29, (.int .i64 t29_37))] s → c1 above_36 t29_37 = some r → Run D σ (R51 r) (.run A51_1 [.lp A51_1, .bk 0, .sq A51_13]) s) (c4 : (List Int) → Int → Option ((List Int) × Bool)) (Hc4 : ∀ (above_78 : (List Int)) (up_79 : Int) (s : Nat → V), Facts [(1, (Enc.enc (parents_2 : List Int))), (2, (.ref (.bx 2) 0 [] (.agg [(.int .i64 g_1.1), (Enc.enc (g_1.2 : List (Int × Int)))]))), (4, (.sl .nl (Enc.shp Int) 0 [])), (5, (.bool false)), (6, (encO (.at 6 []) (.of (above_78 : List Int)))), (7, (.int .i64 t29_37)), (8, (.int .i64 up_79)), (28, (.int .i64 (mk_5.length : Int))), (29, (.int .i64 t29_37))] s → c4 above_78 up_79 = some r → Run D σ (R51 r) (.run A51_6 [.lp A51_6, .bk 2, .bk 1, .sq A51_12, .lp A51_1, .bk 0, .sq A51_13]) s) (t54_91 : Bool) (s : Nat → V) (hs : Facts [(1, (Enc.enc (parents_2 : List Int))), (2, (.ref (.bx 2) 0 [] (.agg [(.int .i64 g_1.1), (Enc.enc (g_1.2 : List (Int × Int)))]))), (4, (.sl .nl (Enc.shp Int) 0 [])), (5, (.bool false)), (6, (encO (.at 6 []) (.of (above_78 : List Int)))), (7, (.int .i64 t29_37)), (8, (.int .i64 up_79)), (28, (.int .i64 (mk_5.length : Int))), (29, (.int .i64 t29_37)), (54, (.bool t54_91))] s) (h : i_forestLists_j1 F parents_2 g_1 above_78 t29_37 up_79 mk_5 c1 c4 t54_91 = some r) : Run D σ (R51 r) (.nrm [.sq A51_9, .sq A51_10, .bk 3, .sq A51_11, .lp A51_6, .bk 2, .bk 1, .sq A51_12, .lp A51_1, .bk 0, .sq A51_13]) s := by
  unfold i_forestLists_j1 at h
  obtain ⟨h1, h2, h4, h5, h6, h7, h8, h28, h29, h54⟩ := hs
  refine .nsq ?_
  refine run_cond (t := t54_91) h54 h (fun h => ?_) (fun h => ?_)
  · refine .seq ?_
    refine run_reg ?_
    refine e_end ?_
    refine g_v0 (.sl .nl (Enc.shp Int) 0 []) rfl rfl ?_
    refine g_v0 (.bool false) rfl rfl ?_
    refine g_end ?_
    refine e_end ?_
    refine renew [(1, (Enc.enc (parents_2 : List Int))), (2, (.ref (.bx 2) 0 [] (.agg [(.int .i64 g_1.1), (Enc.enc (g_1.2 : List (Int × Int)))]))), (4, (.sl .nl (Enc.shp Int) 0 [])), (5, (.bool false)), (6, (encO (.at 6 []) (.of (above_78 : List Int)))), (7, (.int .i64 t29_37)), (8, (.int .i64 up_79)), (28, (.int .i64 (mk_5.length : Int))), (29, (.int .i64 t29_37))] ⟨h1, h2, rfl, rfl, h6, h7, h8, h28, h29⟩ ?_
    rintro s ⟨h1, h2, h4, h5, h6, h7, h8, h28, h29⟩
    refine .nsq ?_
    refine .ret ?_
    have hr := Option.some.inj h
    subst hr
    exact rrB (res_tmp h4) (res_tmp h5) (fin_ret1 (fin_tup (fins_cons (fin_own (o := (.nil : NL Int)) (t := .nl)) (fins_cons (fin_enc (x := (false : Bool))) fins_nil))))
  · refine .skip ?_
    refine .nsq ?_
    refine run_reg ?_
    refine e_end ?_
    refine g_v1 (t := 6) (u := (encO (.at 6 []) (.of (above_78 : List Int)))) (encO (.at 6 []) (.of (above_78 : List Int))) h6 rfl rfl ?_
    refine g_v1 (t := 7) (u := (.int .i64 t29_37)) (.int .i64 t29_37) h7 rfl rfl ?_
    obtain ⟨e_92, E_e_92, h⟩ := bind_some h
    refine g_v (.ref (.at 6 []) t29_37.toNat [] (.int .i64 e_92)) (ev_idxO (o := (.of above_78)) rfl rfl E_e_92 rfl) ?_
    refine g_v1 (t := 57) (u := (.ref (.at 6 []) t29_37.toNat [] (.int .i64 e_92))) (.int .i64 e_92) rfl rfl rfl ?_
    refine g_v1 (t := 8) (u := (.int .i64 up_79)) (.int .i64 up_79) h8 rfl rfl ?_
    obtain ⟨q_93, E_q_93, h⟩ := bind_some h
    refine g_v (.int .i64 q_93) (ev_shl rfl rfl E_q_93) ?_
    refine g_v2 (t1 := 58) (t2 := 60) (u1 := (.int .i64 e_92)) (u2 := (.int .i64 q_93)) (.int .i64 (ior .i64 e_92 q_93)) rfl rfl rfl rfl ?_
    obtain ⟨e_94, E_e_94, h⟩ := bind_some h
    refine g_v (.ref (.at 6 []) t29_37.toNat [] (.int .i64 e_94)) (ev_idxO (o := (.of above_78)) rfl rfl E_e_94 rfl) ?_
    refine g_store (.int .i64 (ior .i64 e_92 q_93)) (rd_of rfl rfl) (rd_of rfl rfl) (by refine ⟨by decide, by decide, rfl, rfl, rfl, ?_⟩; first | rfl | simp [V.toks, V.tokss, Enc.toks_enc]) ?_
    refine g_end ?_
    refine e_end ?_
    refine renew [(1, (Enc.enc (parents_2 : List Int))), (2, (.ref (.bx 2) 0 [] (.agg [(.int .i64 g_1.1), (Enc.enc (g_1.2 : List (Int × Int)))]))), (4, (.sl .nl (Enc.shp Int) 0 [])), (5, (.bool false)), (6, (encO (.at 6 []) (.of (above_78.set t29_37.toNat (ior .i64 e_92 q_93) : List Int)))), (7, (.int .i64 t29_37)), (8, (.int .i64 up_79)), (28, (.int .i64 (mk_5.length : Int))), (29, (.int .i64 t29_37))] ⟨(keep_mut h1 (Enc.mut_enc _ _ _ _ (parents_2 : List Int))), (keep_mut h2 (mut_ref_ne rfl rfl (mut_agg (muts_cons rfl (muts_cons (Enc.mut_enc _ _ _ _ (g_1.2 : List (Int × Int))) rfl))))), (keep_mut h4 rfl), (keep_mut h5 rfl), (keep_mut h6 mut_own), (keep_mut h7 rfl), (keep_mut h8 rfl), (keep_mut h28 rfl), (keep_mut h29 rfl)⟩ ?_
    rintro s ⟨h1, h2, h4, h5, h6, h7, h8, h28, h29⟩
    refine .nbk ?_
    refine .nsq ?_
    refine run_reg ?_
    refine e_end ?_
    refine g_v1 (t := 1) (u := (Enc.enc (parents_2 : List Int))) (Enc.enc (parents_2 : List Int)) h1 rfl rfl ?_
    refine g_v1 (t := 8) (u := (.int .i64 up_79)) (.int .i64 up_79) h8 rfl rfl ?_
    obtain ⟨e_95, E_e_95, h⟩ := bind_some h
    refine g_v (.ref .sh 0 [] (.int .i64 e_95)) (ev_idx (t := .sh) (lo := 0) (xs := parents_2) rfl rfl E_e_95 rfl rfl) ?_
    refine g_v1 (t := 40) (u := (.ref .sh 0 [] (.int .i64 e_95))) (.int .i64 e_95) rfl rfl rfl ?_
    refine g_v1 (t := 41) (u := (.int .i64 e_95)) (.int .i64 e_95) rfl rfl rfl ?_
    refine g_end ?_
    refine e_end ?_
    refine renew [(1, (Enc.enc (parents_2 : List Int))), (2, (.ref (.bx 2) 0 [] (.agg [(.int .i64 g_1.1), (Enc.enc (g_1.2 : List (Int × Int)))]))), (4, (.sl .nl (Enc.shp Int) 0 [])), (5, (.bool false)), (6, (encO (.at 6 []) (.of (above_78.set t29_37.toNat (ior .i64 e_92 q_93) : List Int)))), (7, (.int .i64 t29_37)), (8, (.int .i64 e_95)), (28, (.int .i64 (mk_5.length : Int))), (29, (.int .i64 t29_37))] ⟨h1, h2, h4, h5, h6, h7, rfl, h28, h29⟩ ?_
    rintro s ⟨h1, h2, h4, h5, h6, h7, h8, h28, h29⟩
    refine .nlp ?_
    exact Hc4 (above_78.set t29_37.toNat (ior .i64 e_92 q_93)) e_95 _ ⟨h1, h2, h4, h5, h6, h7, h8, h28, h29⟩ h
def i_forestLists_l1 (F : Nat) (parents_2 : (List Int)) (g_1 : (Int × (List (Int × Int)))) (t29_37 : Int) (mk_5 : (List Int)) (c1 : (List Int) → Int → Option ((List Int) × Bool)) : Nat → (List Int) → Int → Option ((List Int) × Bool)
  | 0, _, _ => none
  | k + 1, above_78, up_79 =>
    bif decide (up_79 ≥ 0) then
      bif (up_79 == t29_37) then
        i_forestLists_j1 F parents_2 g_1 above_78 t29_37 up_79 mk_5 c1 (i_forestLists_l1 F parents_2 g_1 t29_37 mk_5 c1 k) true
      else
        (idx above_78 t29_37).bind fun e_96 =>
        (shrI .i64 e_96 up_79).bind fun q_97 =>
        i_forestLists_j1 F parents_2 g_1 above_78 t29_37 up_79 mk_5 c1 (i_forestLists_l1 F parents_2 g_1 t29_37 mk_5 c1 k) ((iand .i64 q_97 1) == 1)
    else
      c1 above_78 (w64 (t29_37 + 1))
theorem t_f51_l1 (H : H51 D σ F) (parents_2 : (List Int)) (g_1 : (Int × (List (Int × Int)))) (t29_37 : Int) (mk_5 : (List Int)) (c1 : (List Int) → Int → Option ((List Int) × Bool)) (Hc1 : ∀ (above_36 : (List Int)) (t29_37 : Int) (s : Nat → V), Facts [(1, (Enc.enc (parents_2 : List Int))), (2, (.ref (.bx 2) 0 [] (.agg [(.int .i64 g_1.1), (Enc.enc (g_1.2 : List (Int × Int)))]))), (4, (.sl .nl (Enc.shp Int) 0 [])), (5, (.bool false)), (6, (encO (.at 6 []) (.of (above_36 : List Int)))), (28, (.int .i64 (mk_5.length : Int))), (29, (.int .i64 t29_37))] s → c1 above_36 t29_37 = some r → Run D σ (R51 r) (.run A51_1 [.lp A51_1, .bk 0, .sq A51_13]) s) : ∀ (k : Nat) (above_78 : (List Int)) (up_79 : Int) (s : Nat → V), Facts [(1, (Enc.enc (parents_2 : List Int))), (2, (.ref (.bx 2) 0 [] (.agg [(.int .i64 g_1.1), (Enc.enc (g_1.2 : List (Int × Int)))]))), (4, (.sl .nl (Enc.shp Int) 0 [])), (5, (.bool false)), (6, (encO (.at 6 []) (.of (above_78 : List Int)))), (7, (.int .i64 t29_37)), (8, (.int .i64 up_79)), (28, (.int .i64 (mk_5.length : Int))), (29, (.int .i64 t29_37))] s → i_forestLists_l1 F parents_2 g_1 t29_37 mk_5 c1 k above_78 up_79 = some r → Run D σ (R51 r) (.run A51_6 [.lp A51_6, .bk 2, .bk 1, .sq A51_12, .lp A51_1, .bk 0, .sq A51_13]) s := by
  intro k
  induction k with
  | zero => intro above_78 up_79 s _ h; exact nomatch (h : (none : Option _) = some r)
  | succ k ih =>
    intro above_78 up_79 s hs h
    rw [i_forestLists_l1] at h
    obtain ⟨h1, h2, h4, h5, h6, h7, h8, h28, h29⟩ := hs
    refine .seq ?_
    refine .seq ?_
    refine run_reg ?_
    refine e_end ?_
    refine g_v1 (t := 8) (u := (.int .i64 up_79)) (.int .i64 up_79) h8 rfl rfl ?_
    refine g_v1 (t := 36) (u := (.int .i64 up_79)) (.bool (decide (up_79 ≥ 0))) rfl rfl rfl ?_
    refine g_end ?_
    refine e_end ?_
    refine renew [(1, (Enc.enc (parents_2 : List Int))), (2, (.ref (.bx 2) 0 [] (.agg [(.int .i64 g_1.1), (Enc.enc (g_1.2 : List (Int × Int)))]))), (4, (.sl .nl (Enc.shp Int) 0 [])), (5, (.bool false)), (6, (encO (.at 6 []) (.of (above_78 : List Int)))), (7, (.int .i64 t29_37)), (8, (.int .i64 up_79)), (28, (.int .i64 (mk_5.length : Int))), (29, (.int .i64 t29_37)), (37, (.bool (decide (up_79 ≥ 0))))] ⟨h1, h2, h4, h5, h6, h7, h8, h28, h29, rfl⟩ ?_
    rintro s ⟨h1, h2, h4, h5, h6, h7, h8, h28, h29, h37⟩
    refine .nsq ?_
    refine run_cond (t := decide (up_79 ≥ 0)) h37 h (fun h => ?_) (fun h => ?_)
    · refine .skip ?_
      refine .nsq ?_
      refine .seq ?_
      refine .block ?_
      refine .seq ?_
      refine .seq ?_
      refine run_reg ?_
      refine e_end ?_
      refine g_v1 (t := 8) (u := (.int .i64 up_79)) (.int .i64 up_79) h8 rfl rfl ?_
      refine g_v1 (t := 7) (u := (.int .i64 t29_37)) (.int .i64 t29_37) h7 rfl rfl ?_
      refine g_v2 (t1 := 42) (t2 := 43) (u1 := (.int .i64 up_79)) (u2 := (.int .i64 t29_37)) (.bool (up_79 == t29_37)) rfl rfl rfl rfl ?_
      refine g_v1 (t := 44) (u := (.bool (up_79 == t29_37))) (.bool (up_79 == t29_37)) rfl rfl rfl ?_
      refine split_on (c := (up_79 == t29_37)) h (fun hg4 h => ?_) (fun hg4 h => ?_)
      · refine g_no (Eq.trans (b := .bool (up_79 == t29_37)) rfl (congrArg V.bool hg4)) ?_
        refine g_no (Eq.trans (b := .bool (up_79 == t29_37)) rfl (congrArg V.bool hg4)) ?_
        refine g_no (Eq.trans (b := .bool (up_79 == t29_37)) rfl (congrArg V.bool hg4)) ?_
        refine g_no (Eq.trans (b := .bool (up_79 == t29_37)) rfl (congrArg V.bool hg4)) ?_
        refine g_no (Eq.trans (b := .bool (up_79 == t29_37)) rfl (congrArg V.bool hg4)) ?_
        refine g_no (Eq.trans (b := .bool (up_79 == t29_37)) rfl (congrArg V.bool hg4)) ?_
        refine g_no (Eq.trans (b := .bool (up_79 == t29_37)) rfl (congrArg V.bool hg4)) ?_
        refine g_no (Eq.trans (b := .bool (up_79 == t29_37)) rfl (congrArg V.bool hg4)) ?_
        refine g_v2 (t1 := 45) (t2 := 53) (u1 := (.bool true)) (u2 := (.tup [])) (.bool true) (Eq.trans (b := .bool (up_79 == t29_37)) rfl (congrArg V.bool hg4)) rfl rfl rfl ?_
        refine g_end ?_
        refine e_end ?_
        refine renew [(1, (Enc.enc (parents_2 : List Int))), (2, (.ref (.bx 2) 0 [] (.agg [(.int .i64 g_1.1), (Enc.enc (g_1.2 : List (Int × Int)))]))), (4, (.sl .nl (Enc.shp Int) 0 [])), (5, (.bool false)), (6, (encO (.at 6 []) (.of (above_78 : List Int)))), (7, (.int .i64 t29_37)), (8, (.int .i64 up_79)), (28, (.int .i64 (mk_5.length : Int))), (29, (.int .i64 t29_37)), (54, (.bool true))] ⟨h1, h2, h4, h5, h6, h7, h8, h28, h29, rfl⟩ ?_
        rintro s ⟨h1, h2, h4, h5, h6, h7, h8, h28, h29, h54⟩
        exact t_f51_j1 H parents_2 g_1 above_78 t29_37 up_79 mk_5 c1 Hc1 (i_forestLists_l1 F parents_2 g_1 t29_37 mk_5 c1 k) ih true _ ⟨h1, h2, h4, h5, h6, h7, h8, h28, h29, h54⟩ h
      · refine g_yes (Eq.trans (b := .bool (up_79 == t29_37)) rfl (congrArg V.bool hg4)) (g_v1 (t := 6) (u := (encO (.at 6 []) (.of (above_78 : List Int)))) (encO (.at 6 []) (.of (above_78 : List Int))) h6 rfl rfl ?_)
        refine g_yes (Eq.trans (b := .bool (up_79 == t29_37)) rfl (congrArg V.bool hg4)) (g_v1 (t := 7) (u := (.int .i64 t29_37)) (.int .i64 t29_37) h7 rfl rfl ?_)
        obtain ⟨e_96, E_e_96, h⟩ := bind_some h
        refine g_yes (Eq.trans (b := .bool (up_79 == t29_37)) rfl (congrArg V.bool hg4)) (g_v (.ref (.at 6 []) t29_37.toNat [] (.int .i64 e_96)) (ev_idxO (o := (.of above_78)) rfl rfl E_e_96 rfl) ?_)
        refine g_yes (Eq.trans (b := .bool (up_79 == t29_37)) rfl (congrArg V.bool hg4)) (g_v1 (t := 48) (u := (.ref (.at 6 []) t29_37.toNat [] (.int .i64 e_96))) (.int .i64 e_96) rfl rfl rfl ?_)
        refine g_yes (Eq.trans (b := .bool (up_79 == t29_37)) rfl (congrArg V.bool hg4)) (g_v1 (t := 8) (u := (.int .i64 up_79)) (.int .i64 up_79) h8 rfl rfl ?_)
        obtain ⟨q_97, E_q_97, h⟩ := bind_some h
        refine g_yes (Eq.trans (b := .bool (up_79 == t29_37)) rfl (congrArg V.bool hg4)) (g_v (.int .i64 q_97) (ev_shr rfl rfl E_q_97) ?_)
        refine g_yes (Eq.trans (b := .bool (up_79 == t29_37)) rfl (congrArg V.bool hg4)) (g_v1 (t := 51) (u := (.int .i64 q_97)) (.int .i64 (iand .i64 q_97 1)) rfl rfl rfl ?_)
        refine g_yes (Eq.trans (b := .bool (up_79 == t29_37)) rfl (congrArg V.bool hg4)) (g_v1 (t := 52) (u := (.int .i64 (iand .i64 q_97 1))) (.bool ((iand .i64 q_97 1) == 1)) rfl rfl rfl ?_)
        refine g_v2 (t1 := 45) (t2 := 53) (u1 := (.bool false)) (u2 := (.bool ((iand .i64 q_97 1) == 1))) (.bool ((iand .i64 q_97 1) == 1)) (Eq.trans (b := .bool (up_79 == t29_37)) rfl (congrArg V.bool hg4)) rfl rfl rfl ?_
        refine g_end ?_
        refine e_end ?_
        refine renew [(1, (Enc.enc (parents_2 : List Int))), (2, (.ref (.bx 2) 0 [] (.agg [(.int .i64 g_1.1), (Enc.enc (g_1.2 : List (Int × Int)))]))), (4, (.sl .nl (Enc.shp Int) 0 [])), (5, (.bool false)), (6, (encO (.at 6 []) (.of (above_78 : List Int)))), (7, (.int .i64 t29_37)), (8, (.int .i64 up_79)), (28, (.int .i64 (mk_5.length : Int))), (29, (.int .i64 t29_37)), (54, (.bool ((iand .i64 q_97 1) == 1)))] ⟨h1, h2, h4, h5, h6, h7, h8, h28, h29, rfl⟩ ?_
        rintro s ⟨h1, h2, h4, h5, h6, h7, h8, h28, h29, h54⟩
        exact t_f51_j1 H parents_2 g_1 above_78 t29_37 up_79 mk_5 c1 Hc1 (i_forestLists_l1 F parents_2 g_1 t29_37 mk_5 c1 k) ih ((iand .i64 q_97 1) == 1) _ ⟨h1, h2, h4, h5, h6, h7, h8, h28, h29, h54⟩ h
    · refine .exit ?_
      refine .esq ?_
      refine .elp ?_
      refine .ebk ?_
      refine .nbk ?_
      refine .nsq ?_
      refine run_reg ?_
      refine e_end ?_
      refine g_v1 (t := 29) (u := (.int .i64 t29_37)) (.int .i64 (w64 (t29_37 + 1))) h29 rfl rfl ?_
      refine g_v1 (t := 63) (u := (.int .i64 (w64 (t29_37 + 1)))) (.int .i64 (w64 (t29_37 + 1))) rfl rfl rfl ?_
      refine g_end ?_
      refine e_end ?_
      refine renew [(1, (Enc.enc (parents_2 : List Int))), (2, (.ref (.bx 2) 0 [] (.agg [(.int .i64 g_1.1), (Enc.enc (g_1.2 : List (Int × Int)))]))), (4, (.sl .nl (Enc.shp Int) 0 [])), (5, (.bool false)), (6, (encO (.at 6 []) (.of (above_78 : List Int)))), (28, (.int .i64 (mk_5.length : Int))), (29, (.int .i64 (w64 (t29_37 + 1))))] ⟨h1, h2, h4, h5, h6, h28, rfl⟩ ?_
      rintro s ⟨h1, h2, h4, h5, h6, h28, h29⟩
      refine .nlp ?_
      exact Hc1 above_78 (w64 (t29_37 + 1)) _ ⟨h1, h2, h4, h5, h6, h28, h29⟩ h
def i_forestLists_j2 (F : Nat) (above_36 : (List Int)) (g_1 : (Int × (List (Int × Int)))) (t67_108 : Int) (c5 : Int → Option ((List Int) × Bool)) (t92_124 : Bool) : Option ((List Int) × Bool) :=
  bif t92_124 then
    some ([], false)
  else
    c5 (w64 (t67_108 + 1))
theorem t_f51_j2 (H : H51 D σ F) (above_36 : (List Int)) (g_1 : (Int × (List (Int × Int)))) (t67_108 : Int) (c5 : Int → Option ((List Int) × Bool)) (Hc5 : ∀ (t67_108 : Int) (s : Nat → V), Facts [(4, (.sl .nl (Enc.shp Int) 0 [])), (5, (.bool false)), (6, (encO (.at 6 []) (.of (above_36 : List Int)))), (65, (Enc.enc (g_1.2 : List (Int × Int)))), (66, (.int .i64 (g_1.2.length : Int))), (67, (.int .i64 t67_108))] s → c5 t67_108 = some r → Run D σ (R51 r) (.run A51_15 [.lp A51_15, .bk 4, .sq A51_21]) s) (t92_124 : Bool) (s : Nat → V) (hs : Facts [(4, (.sl .nl (Enc.shp Int) 0 [])), (5, (.bool false)), (6, (encO (.at 6 []) (.of (above_36 : List Int)))), (65, (Enc.enc (g_1.2 : List (Int × Int)))), (66, (.int .i64 (g_1.2.length : Int))), (67, (.int .i64 t67_108)), (92, (.bool t92_124))] s) (h : i_forestLists_j2 F above_36 g_1 t67_108 c5 t92_124 = some r) : Run D σ (R51 r) (.nrm [.sq A51_19, .bk 5, .sq A51_20, .lp A51_15, .bk 4, .sq A51_21]) s := by
  unfold i_forestLists_j2 at h
  obtain ⟨h4, h5, h6, h65, h66, h67, h92⟩ := hs
  refine .nsq ?_
  refine run_cond (t := t92_124) h92 h (fun h => ?_) (fun h => ?_)
  · refine .seq ?_
    refine run_reg ?_
    refine e_end ?_
    refine g_v0 (.sl .nl (Enc.shp Int) 0 []) rfl rfl ?_
    refine g_v0 (.bool false) rfl rfl ?_
    refine g_end ?_
    refine e_end ?_
    refine renew [(4, (.sl .nl (Enc.shp Int) 0 [])), (5, (.bool false)), (6, (encO (.at 6 []) (.of (above_36 : List Int)))), (65, (Enc.enc (g_1.2 : List (Int × Int)))), (66, (.int .i64 (g_1.2.length : Int))), (67, (.int .i64 t67_108))] ⟨rfl, rfl, h6, h65, h66, h67⟩ ?_
    rintro s ⟨h4, h5, h6, h65, h66, h67⟩
    refine .nsq ?_
    refine .ret ?_
    have hr := Option.some.inj h
    subst hr
    exact rrB (res_tmp h4) (res_tmp h5) (fin_ret1 (fin_tup (fins_cons (fin_own (o := (.nil : NL Int)) (t := .nl)) (fins_cons (fin_enc (x := (false : Bool))) fins_nil))))
  · refine .skip ?_
    refine .nbk ?_
    refine .nsq ?_
    refine run_reg ?_
    refine e_end ?_
    refine g_v1 (t := 67) (u := (.int .i64 t67_108)) (.int .i64 (w64 (t67_108 + 1))) h67 rfl rfl ?_
    refine g_v1 (t := 93) (u := (.int .i64 (w64 (t67_108 + 1)))) (.int .i64 (w64 (t67_108 + 1))) rfl rfl rfl ?_
    refine g_end ?_
    refine e_end ?_
    refine renew [(4, (.sl .nl (Enc.shp Int) 0 [])), (5, (.bool false)), (6, (encO (.at 6 []) (.of (above_36 : List Int)))), (65, (Enc.enc (g_1.2 : List (Int × Int)))), (66, (.int .i64 (g_1.2.length : Int))), (67, (.int .i64 (w64 (t67_108 + 1))))] ⟨h4, h5, h6, h65, h66, rfl⟩ ?_
    rintro s ⟨h4, h5, h6, h65, h66, h67⟩
    refine .nlp ?_
    exact Hc5 (w64 (t67_108 + 1)) _ ⟨h4, h5, h6, h65, h66, h67⟩ h
def i_forestLists_l2 (F : Nat) (above_36 : (List Int)) (g_1 : (Int × (List (Int × Int))))  : Nat → Int → Option ((List Int) × Bool)
  | 0, _ => none
  | k + 1, t67_108 =>
    bif decide (t67_108 < (g_1.2.length : Int)) then
      (idx g_1.2 t67_108).bind fun e_119 =>
      (idx above_36 e_119.1).bind fun e_125 =>
      (shrI .i64 e_125 e_119.2).bind fun q_126 =>
      bif ((iand .i64 q_126 1) == 0) then
        (idx above_36 e_119.2).bind fun e_127 =>
        (shrI .i64 e_127 e_119.1).bind fun q_128 =>
        i_forestLists_j2 F above_36 g_1 t67_108 (i_forestLists_l2 F above_36 g_1 k) ((iand .i64 q_128 1) == 0)
      else
        i_forestLists_j2 F above_36 g_1 t67_108 (i_forestLists_l2 F above_36 g_1 k) false
    else
      some (above_36, true)
theorem t_f51_l2 (H : H51 D σ F) (above_36 : (List Int)) (g_1 : (Int × (List (Int × Int))))  : ∀ (k : Nat) (t67_108 : Int) (s : Nat → V), Facts [(4, (.sl .nl (Enc.shp Int) 0 [])), (5, (.bool false)), (6, (encO (.at 6 []) (.of (above_36 : List Int)))), (65, (Enc.enc (g_1.2 : List (Int × Int)))), (66, (.int .i64 (g_1.2.length : Int))), (67, (.int .i64 t67_108))] s → i_forestLists_l2 F above_36 g_1 k t67_108 = some r → Run D σ (R51 r) (.run A51_15 [.lp A51_15, .bk 4, .sq A51_21]) s := by
  intro k
  induction k with
  | zero => intro t67_108 s _ h; exact nomatch (h : (none : Option _) = some r)
  | succ k ih =>
    intro t67_108 s hs h
    rw [i_forestLists_l2] at h
    obtain ⟨h4, h5, h6, h65, h66, h67⟩ := hs
    refine .seq ?_
    refine run_reg ?_
    refine e_end ?_
    refine g_v2 (t1 := 67) (t2 := 66) (u1 := (.int .i64 t67_108)) (u2 := (.int .i64 (g_1.2.length : Int))) (.bool (decide (t67_108 < (g_1.2.length : Int)))) h67 h66 rfl rfl ?_
    refine g_end ?_
    refine e_end ?_
    refine renew [(4, (.sl .nl (Enc.shp Int) 0 [])), (5, (.bool false)), (6, (encO (.at 6 []) (.of (above_36 : List Int)))), (65, (Enc.enc (g_1.2 : List (Int × Int)))), (66, (.int .i64 (g_1.2.length : Int))), (67, (.int .i64 t67_108)), (68, (.bool (decide (t67_108 < (g_1.2.length : Int)))))] ⟨h4, h5, h6, h65, h66, h67, rfl⟩ ?_
    rintro s ⟨h4, h5, h6, h65, h66, h67, h68⟩
    refine .nsq ?_
    refine .seq ?_
    refine run_cond (t := decide (t67_108 < (g_1.2.length : Int))) h68 h (fun h => ?_) (fun h => ?_)
    · refine .skip ?_
      refine .nsq ?_
      refine .seq ?_
      refine .block ?_
      refine .seq ?_
      refine run_reg ?_
      refine e_clr ?_
      refine e_end ?_
      obtain ⟨e_119, E_e_119, h⟩ := bind_some h
      refine g_v (.ref .sh 0 [] (.agg [(.int .i64 e_119.1), (.int .i64 e_119.2)])) (ev_idx (t := .sh) (lo := 0) (xs := g_1.2) (keep_clear (s := s) (pk := [10]) h65 rfl (Enc.map_enc _ (g_1.2 : List (Int × Int)))) (keep_clear (s := s) (pk := [10]) h67 rfl rfl) E_e_119 rfl rfl) ?_
      refine g_v1 (t := 69) (u := (.ref .sh 0 [] (.agg [(.int .i64 e_119.1), (.int .i64 e_119.2)]))) (.agg [(.int .i64 e_119.1), (.int .i64 e_119.2)]) rfl rfl rfl ?_
      refine g_alloc (gone_clear (s := s) (pk := [10]) (t := 10) rfl) ?_
      refine g_store (.agg [(.int .i64 e_119.1), (.int .i64 e_119.2)]) (rd_of rfl rfl) (rd_of rfl rfl) (by refine ⟨by decide, by decide, rfl, rfl, rfl, ?_⟩; first | rfl | simp [V.toks, V.tokss, Enc.toks_enc]) ?_
      refine g_end ?_
      refine e_end ?_
      refine renew [(4, (.sl .nl (Enc.shp Int) 0 [])), (5, (.bool false)), (6, (encO (.at 6 []) (.of (above_36 : List Int)))), (10, (.ref (.bx 10) 0 [] (.agg [(.int .i64 e_119.1), (.int .i64 e_119.2)]))), (65, (Enc.enc (g_1.2 : List (Int × Int)))), (66, (.int .i64 (g_1.2.length : Int))), (67, (.int .i64 t67_108))] ⟨(keep_mut (keep_clear (s := s) (pk := [10]) h4 rfl rfl) rfl), (keep_mut (keep_clear (s := s) (pk := [10]) h5 rfl rfl) rfl), (keep_mut (keep_clear (s := s) (pk := [10]) h6 rfl (map_encO (r := 6) (p := []) rfl rfl)) (mut_own_ne rfl rfl)), (keep_mut rfl rfl), (keep_mut (keep_clear (s := s) (pk := [10]) h65 rfl (Enc.map_enc _ (g_1.2 : List (Int × Int)))) (Enc.mut_enc _ _ _ _ (g_1.2 : List (Int × Int)))), (keep_mut (keep_clear (s := s) (pk := [10]) h66 rfl rfl) rfl), (keep_mut (keep_clear (s := s) (pk := [10]) h67 rfl rfl) rfl)⟩ ?_
      rintro s ⟨h4, h5, h6, h10, h65, h66, h67⟩
      refine .nsq ?_
      refine .seq ?_
      refine run_reg ?_
      refine e_end ?_
      refine g_v1 (t := 6) (u := (encO (.at 6 []) (.of (above_36 : List Int)))) (encO (.at 6 []) (.of (above_36 : List Int))) h6 rfl rfl ?_
      refine g_v1 (t := 10) (u := (.ref (.bx 10) 0 [] (.agg [(.int .i64 e_119.1), (.int .i64 e_119.2)]))) (.ref (.bx 10) 0 [0] (.int .i64 e_119.1)) h10 rfl rfl ?_
      refine g_v1 (t := 72) (u := (.ref (.bx 10) 0 [0] (.int .i64 e_119.1))) (.int .i64 e_119.1) rfl rfl rfl ?_
      obtain ⟨e_125, E_e_125, h⟩ := bind_some h
      refine g_v (.ref (.at 6 []) e_119.1.toNat [] (.int .i64 e_125)) (ev_idxO (o := (.of above_36)) rfl rfl E_e_125 rfl) ?_
      refine g_v1 (t := 74) (u := (.ref (.at 6 []) e_119.1.toNat [] (.int .i64 e_125))) (.int .i64 e_125) rfl rfl rfl ?_
      refine g_v1 (t := 10) (u := (.ref (.bx 10) 0 [] (.agg [(.int .i64 e_119.1), (.int .i64 e_119.2)]))) (.ref (.bx 10) 0 [1] (.int .i64 e_119.2)) h10 rfl rfl ?_
      refine g_v1 (t := 76) (u := (.ref (.bx 10) 0 [1] (.int .i64 e_119.2))) (.int .i64 e_119.2) rfl rfl rfl ?_
      obtain ⟨q_126, E_q_126, h⟩ := bind_some h
      refine g_v (.int .i64 q_126) (ev_shr rfl rfl E_q_126) ?_
      refine g_v1 (t := 78) (u := (.int .i64 q_126)) (.int .i64 (iand .i64 q_126 1)) rfl rfl rfl ?_
      refine g_v1 (t := 79) (u := (.int .i64 (iand .i64 q_126 1))) (.bool ((iand .i64 q_126 1) == 0)) rfl rfl rfl ?_
      refine g_v1 (t := 80) (u := (.bool ((iand .i64 q_126 1) == 0))) (.bool ((iand .i64 q_126 1) == 0)) rfl rfl rfl ?_
      refine split_on (c := ((iand .i64 q_126 1) == 0)) h (fun hg11 h => ?_) (fun hg11 h => ?_)
      · refine g_yes (Eq.trans (b := .bool ((iand .i64 q_126 1) == 0)) rfl (congrArg V.bool hg11)) (g_v1 (t := 6) (u := (encO (.at 6 []) (.of (above_36 : List Int)))) (encO (.at 6 []) (.of (above_36 : List Int))) h6 rfl rfl ?_)
        refine g_yes (Eq.trans (b := .bool ((iand .i64 q_126 1) == 0)) rfl (congrArg V.bool hg11)) (g_v1 (t := 10) (u := (.ref (.bx 10) 0 [] (.agg [(.int .i64 e_119.1), (.int .i64 e_119.2)]))) (.ref (.bx 10) 0 [1] (.int .i64 e_119.2)) h10 rfl rfl ?_)
        refine g_yes (Eq.trans (b := .bool ((iand .i64 q_126 1) == 0)) rfl (congrArg V.bool hg11)) (g_v1 (t := 83) (u := (.ref (.bx 10) 0 [1] (.int .i64 e_119.2))) (.int .i64 e_119.2) rfl rfl rfl ?_)
        obtain ⟨e_127, E_e_127, h⟩ := bind_some h
        refine g_yes (Eq.trans (b := .bool ((iand .i64 q_126 1) == 0)) rfl (congrArg V.bool hg11)) (g_v (.ref (.at 6 []) e_119.2.toNat [] (.int .i64 e_127)) (ev_idxO (o := (.of above_36)) rfl rfl E_e_127 rfl) ?_)
        refine g_yes (Eq.trans (b := .bool ((iand .i64 q_126 1) == 0)) rfl (congrArg V.bool hg11)) (g_v1 (t := 85) (u := (.ref (.at 6 []) e_119.2.toNat [] (.int .i64 e_127))) (.int .i64 e_127) rfl rfl rfl ?_)
        refine g_yes (Eq.trans (b := .bool ((iand .i64 q_126 1) == 0)) rfl (congrArg V.bool hg11)) (g_v1 (t := 10) (u := (.ref (.bx 10) 0 [] (.agg [(.int .i64 e_119.1), (.int .i64 e_119.2)]))) (.ref (.bx 10) 0 [0] (.int .i64 e_119.1)) h10 rfl rfl ?_)
        refine g_yes (Eq.trans (b := .bool ((iand .i64 q_126 1) == 0)) rfl (congrArg V.bool hg11)) (g_v1 (t := 87) (u := (.ref (.bx 10) 0 [0] (.int .i64 e_119.1))) (.int .i64 e_119.1) rfl rfl rfl ?_)
        obtain ⟨q_128, E_q_128, h⟩ := bind_some h
        refine g_yes (Eq.trans (b := .bool ((iand .i64 q_126 1) == 0)) rfl (congrArg V.bool hg11)) (g_v (.int .i64 q_128) (ev_shr rfl rfl E_q_128) ?_)
        refine g_yes (Eq.trans (b := .bool ((iand .i64 q_126 1) == 0)) rfl (congrArg V.bool hg11)) (g_v1 (t := 89) (u := (.int .i64 q_128)) (.int .i64 (iand .i64 q_128 1)) rfl rfl rfl ?_)
        refine g_yes (Eq.trans (b := .bool ((iand .i64 q_126 1) == 0)) rfl (congrArg V.bool hg11)) (g_v1 (t := 90) (u := (.int .i64 (iand .i64 q_128 1))) (.bool ((iand .i64 q_128 1) == 0)) rfl rfl rfl ?_)
        refine g_v2 (t1 := 81) (t2 := 91) (u1 := (.bool true)) (u2 := (.bool ((iand .i64 q_128 1) == 0))) (.bool ((iand .i64 q_128 1) == 0)) (Eq.trans (b := .bool ((iand .i64 q_126 1) == 0)) rfl (congrArg V.bool hg11)) rfl rfl rfl ?_
        refine g_end ?_
        refine e_end ?_
        refine renew [(4, (.sl .nl (Enc.shp Int) 0 [])), (5, (.bool false)), (6, (encO (.at 6 []) (.of (above_36 : List Int)))), (65, (Enc.enc (g_1.2 : List (Int × Int)))), (66, (.int .i64 (g_1.2.length : Int))), (67, (.int .i64 t67_108)), (92, (.bool ((iand .i64 q_128 1) == 0)))] ⟨h4, h5, h6, h65, h66, h67, rfl⟩ ?_
        rintro s ⟨h4, h5, h6, h65, h66, h67, h92⟩
        exact t_f51_j2 H above_36 g_1 t67_108 (i_forestLists_l2 F above_36 g_1 k) ih ((iand .i64 q_128 1) == 0) _ ⟨h4, h5, h6, h65, h66, h67, h92⟩ h
      · refine g_no (Eq.trans (b := .bool ((iand .i64 q_126 1) == 0)) rfl (congrArg V.bool hg11)) ?_
        refine g_no (Eq.trans (b := .bool ((iand .i64 q_126 1) == 0)) rfl (congrArg V.bool hg11)) ?_
        refine g_no (Eq.trans (b := .bool ((iand .i64 q_126 1) == 0)) rfl (congrArg V.bool hg11)) ?_
        refine g_no (Eq.trans (b := .bool ((iand .i64 q_126 1) == 0)) rfl (congrArg V.bool hg11)) ?_
        refine g_no (Eq.trans (b := .bool ((iand .i64 q_126 1) == 0)) rfl (congrArg V.bool hg11)) ?_
        refine g_no (Eq.trans (b := .bool ((iand .i64 q_126 1) == 0)) rfl (congrArg V.bool hg11)) ?_
        refine g_no (Eq.trans (b := .bool ((iand .i64 q_126 1) == 0)) rfl (congrArg V.bool hg11)) ?_
        refine g_no (Eq.trans (b := .bool ((iand .i64 q_126 1) == 0)) rfl (congrArg V.bool hg11)) ?_
        refine g_no (Eq.trans (b := .bool ((iand .i64 q_126 1) == 0)) rfl (congrArg V.bool hg11)) ?_
        refine g_no (Eq.trans (b := .bool ((iand .i64 q_126 1) == 0)) rfl (congrArg V.bool hg11)) ?_
        refine g_v2 (t1 := 81) (t2 := 91) (u1 := (.bool false)) (u2 := (.tup [])) (.bool false) (Eq.trans (b := .bool ((iand .i64 q_126 1) == 0)) rfl (congrArg V.bool hg11)) rfl rfl rfl ?_
        refine g_end ?_
        refine e_end ?_
        refine renew [(4, (.sl .nl (Enc.shp Int) 0 [])), (5, (.bool false)), (6, (encO (.at 6 []) (.of (above_36 : List Int)))), (65, (Enc.enc (g_1.2 : List (Int × Int)))), (66, (.int .i64 (g_1.2.length : Int))), (67, (.int .i64 t67_108)), (92, (.bool false))] ⟨h4, h5, h6, h65, h66, h67, rfl⟩ ?_
        rintro s ⟨h4, h5, h6, h65, h66, h67, h92⟩
        exact t_f51_j2 H above_36 g_1 t67_108 (i_forestLists_l2 F above_36 g_1 k) ih false _ ⟨h4, h5, h6, h65, h66, h67, h92⟩ h
    · refine .exit ?_
      refine .esq ?_
      refine .elp ?_
      refine .ebk ?_
      refine .nsq ?_
      refine .seq ?_
      refine run_reg ?_
      refine e_end ?_
      refine g_v1 (t := 6) (u := (encO (.at 6 []) (.of (above_36 : List Int)))) (encO (.at 6 []) (.of (above_36 : List Int))) h6 rfl rfl ?_
      refine g_v1 (t := 94) (u := (encO (.at 6 []) (.of (above_36 : List Int)))) (encO (.at 6 []) (.of (above_36 : List Int))) rfl rfl rfl ?_
      refine g_v0 (.bool true) rfl rfl ?_
      refine g_end ?_
      refine e_home (r := 6) (x := 4) (v := (encO (.at 6 []) (.of (above_36 : List Int)))) (by exact rfl) rfl (fun s_7 hg_7 => ?_)
      refine e_end ?_
      refine renew [(4, (encO (.at 4 []) (.of (above_36 : List Int)))), (5, (.bool true))] ⟨(hg_7 4 (encO (.at 6 []) (.of (above_36 : List Int))) (encO (.at 4 []) (.of (above_36 : List Int))) rfl (map_encO (r := 6) (p := []) rfl rfl)), (hg_7 5 (.bool true) (.bool true) rfl rfl)⟩ ?_
      rintro s ⟨h4, h5⟩
      refine .nsq ?_
      refine .ret ?_
      have hr := Option.some.inj h
      subst hr
      exact rrB (res_tmp h4) (res_tmp h5) (fin_ret1 (fin_tup (fins_cons (fin_own (o := .of above_36)) (fins_cons (fin_enc (x := (true : Bool))) fins_nil))))
def i_forestLists_l3 (F : Nat) (parents_2 : (List Int)) (g_1 : (Int × (List (Int × Int)))) (mk_5 : (List Int))  : Nat → (List Int) → Int → Option ((List Int) × Bool)
  | 0, _, _ => none
  | k + 1, above_36, t29_37 =>
    bif decide (t29_37 < (mk_5.length : Int)) then
      (idx parents_2 t29_37).bind fun e_68 =>
      i_forestLists_l1 F parents_2 g_1 t29_37 mk_5 (i_forestLists_l3 F parents_2 g_1 mk_5 k) F above_36 e_68
    else
      i_forestLists_l2 F above_36 g_1 F 0
theorem t_f51_l3 (H : H51 D σ F) (parents_2 : (List Int)) (g_1 : (Int × (List (Int × Int)))) (mk_5 : (List Int))  : ∀ (k : Nat) (above_36 : (List Int)) (t29_37 : Int) (s : Nat → V), Facts [(1, (Enc.enc (parents_2 : List Int))), (2, (.ref (.bx 2) 0 [] (.agg [(.int .i64 g_1.1), (Enc.enc (g_1.2 : List (Int × Int)))]))), (4, (.sl .nl (Enc.shp Int) 0 [])), (5, (.bool false)), (6, (encO (.at 6 []) (.of (above_36 : List Int)))), (28, (.int .i64 (mk_5.length : Int))), (29, (.int .i64 t29_37))] s → i_forestLists_l3 F parents_2 g_1 mk_5 k above_36 t29_37 = some r → Run D σ (R51 r) (.run A51_1 [.lp A51_1, .bk 0, .sq A51_13]) s := by
  intro k
  induction k with
  | zero => intro above_36 t29_37 s _ h; exact nomatch (h : (none : Option _) = some r)
  | succ k ih =>
    intro above_36 t29_37 s hs h
    rw [i_forestLists_l3] at h
    obtain ⟨h1, h2, h4, h5, h6, h28, h29⟩ := hs
    refine .seq ?_
    refine run_reg ?_
    refine e_end ?_
    refine g_v2 (t1 := 29) (t2 := 28) (u1 := (.int .i64 t29_37)) (u2 := (.int .i64 (mk_5.length : Int))) (.bool (decide (t29_37 < (mk_5.length : Int)))) h29 h28 rfl rfl ?_
    refine g_end ?_
    refine e_end ?_
    refine renew [(1, (Enc.enc (parents_2 : List Int))), (2, (.ref (.bx 2) 0 [] (.agg [(.int .i64 g_1.1), (Enc.enc (g_1.2 : List (Int × Int)))]))), (4, (.sl .nl (Enc.shp Int) 0 [])), (5, (.bool false)), (6, (encO (.at 6 []) (.of (above_36 : List Int)))), (28, (.int .i64 (mk_5.length : Int))), (29, (.int .i64 t29_37)), (30, (.bool (decide (t29_37 < (mk_5.length : Int)))))] ⟨h1, h2, h4, h5, h6, h28, h29, rfl⟩ ?_
    rintro s ⟨h1, h2, h4, h5, h6, h28, h29, h30⟩
    refine .nsq ?_
    refine .seq ?_
    refine run_cond (t := decide (t29_37 < (mk_5.length : Int))) h30 h (fun h => ?_) (fun h => ?_)
    · refine .skip ?_
      refine .nsq ?_
      refine .seq ?_
      refine .block ?_
      refine .seq ?_
      refine run_reg ?_
      refine e_end ?_
      refine g_v1 (t := 29) (u := (.int .i64 t29_37)) (.int .i64 t29_37) h29 rfl rfl ?_
      refine g_v1 (t := 31) (u := (.int .i64 t29_37)) (.int .i64 t29_37) rfl rfl rfl ?_
      refine g_end ?_
      refine e_end ?_
      refine renew [(1, (Enc.enc (parents_2 : List Int))), (2, (.ref (.bx 2) 0 [] (.agg [(.int .i64 g_1.1), (Enc.enc (g_1.2 : List (Int × Int)))]))), (4, (.sl .nl (Enc.shp Int) 0 [])), (5, (.bool false)), (6, (encO (.at 6 []) (.of (above_36 : List Int)))), (7, (.int .i64 t29_37)), (28, (.int .i64 (mk_5.length : Int))), (29, (.int .i64 t29_37))] ⟨h1, h2, h4, h5, h6, rfl, h28, h29⟩ ?_
      rintro s ⟨h1, h2, h4, h5, h6, h7, h28, h29⟩
      refine .nsq ?_
      refine .seq ?_
      refine run_reg ?_
      refine e_end ?_
      refine g_v1 (t := 1) (u := (Enc.enc (parents_2 : List Int))) (Enc.enc (parents_2 : List Int)) h1 rfl rfl ?_
      refine g_v1 (t := 7) (u := (.int .i64 t29_37)) (.int .i64 t29_37) h7 rfl rfl ?_
      obtain ⟨e_68, E_e_68, h⟩ := bind_some h
      refine g_v (.ref .sh 0 [] (.int .i64 e_68)) (ev_idx (t := .sh) (lo := 0) (xs := parents_2) rfl rfl E_e_68 rfl rfl) ?_
      refine g_v1 (t := 34) (u := (.ref .sh 0 [] (.int .i64 e_68))) (.int .i64 e_68) rfl rfl rfl ?_
      refine g_v1 (t := 35) (u := (.int .i64 e_68)) (.int .i64 e_68) rfl rfl rfl ?_
      refine g_end ?_
      refine e_end ?_
      refine renew [(1, (Enc.enc (parents_2 : List Int))), (2, (.ref (.bx 2) 0 [] (.agg [(.int .i64 g_1.1), (Enc.enc (g_1.2 : List (Int × Int)))]))), (4, (.sl .nl (Enc.shp Int) 0 [])), (5, (.bool false)), (6, (encO (.at 6 []) (.of (above_36 : List Int)))), (7, (.int .i64 t29_37)), (8, (.int .i64 e_68)), (28, (.int .i64 (mk_5.length : Int))), (29, (.int .i64 t29_37))] ⟨h1, h2, h4, h5, h6, h7, rfl, h28, h29⟩ ?_
      rintro s ⟨h1, h2, h4, h5, h6, h7, h8, h28, h29⟩
      refine .nsq ?_
      refine .block ?_
      refine .loop ?_
      exact t_f51_l1 H parents_2 g_1 t29_37 mk_5 (i_forestLists_l3 F parents_2 g_1 mk_5 k) ih F above_36 e_68 _ ⟨h1, h2, h4, h5, h6, h7, h8, h28, h29⟩ h
    · refine .exit ?_
      refine .esq ?_
      refine .elp ?_
      refine .ebk ?_
      refine .nsq ?_
      refine .seq ?_
      refine .seq ?_
      refine run_reg ?_
      refine e_end ?_
      refine g_v1 (t := 2) (u := (.ref (.bx 2) 0 [] (.agg [(.int .i64 g_1.1), (Enc.enc (g_1.2 : List (Int × Int)))]))) (.ref (.bx 2) 0 [1] (Enc.enc (g_1.2 : List (Int × Int)))) h2 rfl rfl ?_
      refine g_v1 (t := 64) (u := (.ref (.bx 2) 0 [1] (Enc.enc (g_1.2 : List (Int × Int))))) (Enc.enc (g_1.2 : List (Int × Int))) rfl rfl rfl ?_
      refine g_v (.int .i64 (g_1.2.length : Int)) (ev_len (xs := g_1.2) rfl) ?_
      refine g_v0 (.int .i64 0) rfl rfl ?_
      refine g_end ?_
      refine e_end ?_
      refine renew [(4, (.sl .nl (Enc.shp Int) 0 [])), (5, (.bool false)), (6, (encO (.at 6 []) (.of (above_36 : List Int)))), (65, (Enc.enc (g_1.2 : List (Int × Int)))), (66, (.int .i64 (g_1.2.length : Int))), (67, (.int .i64 0))] ⟨h4, h5, h6, rfl, rfl, rfl⟩ ?_
      rintro s ⟨h4, h5, h6, h65, h66, h67⟩
      refine .nsq ?_
      refine .block ?_
      refine .loop ?_
      exact t_f51_l2 H above_36 g_1 F 0 _ ⟨h4, h5, h6, h65, h66, h67⟩ h
def i_forestLists_j3 (F : Nat) (parents_2 : (List Int)) (g_1 : (Int × (List (Int × Int))))  (t23_4 : Bool) : Option ((List Int) × Bool) :=
  bif t23_4 then
    some ([], false)
  else
    (mkN g_1.1 0).bind fun mk_5 =>
    i_forestLists_l3 F parents_2 g_1 mk_5 F mk_5 0
theorem t_f51_j3 (H : H51 D σ F) (parents_2 : (List Int)) (g_1 : (Int × (List (Int × Int))))  (t23_4 : Bool) (s : Nat → V) (hs : Facts [(1, (Enc.enc (parents_2 : List Int))), (2, (.ref (.bx 2) 0 [] (.agg [(.int .i64 g_1.1), (Enc.enc (g_1.2 : List (Int × Int)))]))), (4, (.sl .nl (Enc.shp Int) 0 [])), (5, (.bool false)), (23, (.bool t23_4))] s) (h : i_forestLists_j3 F parents_2 g_1  t23_4 = some r) : Run D σ (R51 r) (.nrm [.sq A51_22, .sq A51_23]) s := by
  unfold i_forestLists_j3 at h
  obtain ⟨h1, h2, h4, h5, h23⟩ := hs
  refine .nsq ?_
  refine run_cond (t := t23_4) h23 h (fun h => ?_) (fun h => ?_)
  · refine .seq ?_
    refine run_reg ?_
    refine e_end ?_
    refine g_v0 (.sl .nl (Enc.shp Int) 0 []) rfl rfl ?_
    refine g_v0 (.bool false) rfl rfl ?_
    refine g_end ?_
    refine e_end ?_
    refine renew [(1, (Enc.enc (parents_2 : List Int))), (2, (.ref (.bx 2) 0 [] (.agg [(.int .i64 g_1.1), (Enc.enc (g_1.2 : List (Int × Int)))]))), (4, (.sl .nl (Enc.shp Int) 0 [])), (5, (.bool false))] ⟨h1, h2, rfl, rfl⟩ ?_
    rintro s ⟨h1, h2, h4, h5⟩
    refine .nsq ?_
    refine .ret ?_
    have hr := Option.some.inj h
    subst hr
    exact rrB (res_tmp h4) (res_tmp h5) (fin_ret1 (fin_tup (fins_cons (fin_own (o := (.nil : NL Int)) (t := .nl)) (fins_cons (fin_enc (x := (false : Bool))) fins_nil))))
  · refine .skip ?_
    refine .nsq ?_
    refine .seq ?_
    refine run_reg ?_
    refine e_clr ?_
    refine e_end ?_
    refine g_v1 (t := 2) (u := (.ref (.bx 2) 0 [] (.agg [(.int .i64 g_1.1), (Enc.enc (g_1.2 : List (Int × Int)))]))) (.ref (.bx 2) 0 [0] (.int .i64 g_1.1)) (keep_clear (s := s) (pk := [26]) h2 rfl (map_bx rfl (map_agg (maps_cons rfl (maps_cons (Enc.map_enc _ (g_1.2 : List (Int × Int))) maps_nil))))) rfl rfl ?_
    refine g_v1 (t := 24) (u := (.ref (.bx 2) 0 [0] (.int .i64 g_1.1))) (.int .i64 g_1.1) rfl rfl rfl ?_
    obtain ⟨mk_5, E_mk_5, h⟩ := bind_some h
    refine g_mk (0 : Int) rfl rfl (gone_clear (s := s) (pk := [26]) (t := 26) rfl) E_mk_5 ?_
    refine g_v1 (t := 26) (u := (encO (.at 26 []) (.of (mk_5 : List Int)))) (encO (.at 26 []) (.of (mk_5 : List Int))) rfl rfl rfl ?_
    refine g_end ?_
    refine e_home (r := 26) (x := 6) (v := (encO (.at 26 []) (.of (mk_5 : List Int)))) (by exact rfl) rfl (fun s_3 hg_3 => ?_)
    refine e_end ?_
    refine renew [(1, (Enc.enc (parents_2 : List Int))), (2, (.ref (.bx 2) 0 [] (.agg [(.int .i64 g_1.1), (Enc.enc (g_1.2 : List (Int × Int)))]))), (4, (.sl .nl (Enc.shp Int) 0 [])), (5, (.bool false)), (6, (encO (.at 6 []) (.of (mk_5 : List Int))))] ⟨(hg_3 1 (Enc.enc (parents_2 : List Int)) (Enc.enc (parents_2 : List Int)) (keep_clear (s := s) (pk := [26]) h1 rfl (Enc.map_enc _ (parents_2 : List Int))) (Enc.map_enc _ (parents_2 : List Int))), (hg_3 2 (.ref (.bx 2) 0 [] (.agg [(.int .i64 g_1.1), (Enc.enc (g_1.2 : List (Int × Int)))])) (.ref (.bx 2) 0 [] (.agg [(.int .i64 g_1.1), (Enc.enc (g_1.2 : List (Int × Int)))])) (keep_clear (s := s) (pk := [26]) h2 rfl (map_bx rfl (map_agg (maps_cons rfl (maps_cons (Enc.map_enc _ (g_1.2 : List (Int × Int))) maps_nil))))) (map_bx rfl (map_agg (maps_cons rfl (maps_cons (Enc.map_enc _ (g_1.2 : List (Int × Int))) maps_nil))))), (hg_3 4 (.sl .nl (Enc.shp Int) 0 []) (.sl .nl (Enc.shp Int) 0 []) (keep_clear (s := s) (pk := [26]) h4 rfl rfl) rfl), (hg_3 5 (.bool false) (.bool false) (keep_clear (s := s) (pk := [26]) h5 rfl rfl) rfl), (hg_3 6 (encO (.at 26 []) (.of (mk_5 : List Int))) (encO (.at 6 []) (.of (mk_5 : List Int))) rfl (map_encO (r := 26) (p := []) rfl rfl))⟩ ?_
    rintro s ⟨h1, h2, h4, h5, h6⟩
    refine .nsq ?_
    refine .seq ?_
    refine .seq ?_
    refine run_reg ?_
    refine e_end ?_
    refine g_v1 (t := 6) (u := (encO (.at 6 []) (.of (mk_5 : List Int)))) (encO (.at 6 []) (.of (mk_5 : List Int))) h6 rfl rfl ?_
    refine g_v (.int .i64 (mk_5.length : Int)) (ev_lenO (o := .of mk_5) rfl) ?_
    refine g_v0 (.int .i64 0) rfl rfl ?_
    refine g_end ?_
    refine e_end ?_
    refine renew [(1, (Enc.enc (parents_2 : List Int))), (2, (.ref (.bx 2) 0 [] (.agg [(.int .i64 g_1.1), (Enc.enc (g_1.2 : List (Int × Int)))]))), (4, (.sl .nl (Enc.shp Int) 0 [])), (5, (.bool false)), (6, (encO (.at 6 []) (.of (mk_5 : List Int)))), (28, (.int .i64 (mk_5.length : Int))), (29, (.int .i64 0))] ⟨h1, h2, h4, h5, h6, rfl, rfl⟩ ?_
    rintro s ⟨h1, h2, h4, h5, h6, h28, h29⟩
    refine .nsq ?_
    refine .block ?_
    refine .loop ?_
    exact t_f51_l3 H parents_2 g_1 mk_5 F mk_5 0 _ ⟨h1, h2, h4, h5, h6, h28, h29⟩ h
def i_forestLists (F : Nat) (g_1 : (Int × (List (Int × Int)))) (parents_2 : (List Int)) : Option ((List Int) × Bool) :=
  bif ((parents_2.length : Int) != g_1.1) then
    i_forestLists_j3 F parents_2 g_1 true
  else
    (i_allWithin F parents_2 (-1) (w64 (g_1.1 - 1))).bind fun r_129 =>
    i_forestLists_j3 F parents_2 g_1 (!r_129)
theorem t51 (H : H51 D σ F) (g_1 : (Int × (List (Int × Int)))) (parents_2 : (List Int)) (s : Nat → V) (hs : Facts [(0, (.agg [(.int .i64 g_1.1), (Enc.enc (g_1.2 : List (Int × Int)))])), (1, (Enc.enc (parents_2 : List Int)))] s) (h : i_forestLists F g_1 parents_2 = some r) : Run D σ (R51 r) (.run A51 []) s := by
  unfold i_forestLists at h
  obtain ⟨h0, h1⟩ := hs
  refine .seq ?_
  refine run_reg ?_
  refine e_clr ?_
  refine e_end ?_
  refine g_box (.agg [(.int .i64 g_1.1), (Enc.enc (g_1.2 : List (Int × Int)))]) (rd_of (keep_clear (s := s) (pk := [2]) h0 rfl (map_agg (maps_cons rfl (maps_cons (Enc.map_enc _ (g_1.2 : List (Int × Int))) maps_nil)))) rfl) (gone_clear (s := s) (pk := [2]) (t := 2) rfl) rfl ?_
  refine g_v0 (.sl .nl (Enc.shp Int) 0 []) rfl rfl ?_
  refine g_v0 (.bool false) rfl rfl ?_
  refine g_end ?_
  refine e_end ?_
  refine renew [(1, (Enc.enc (parents_2 : List Int))), (2, (.ref (.bx 2) 0 [] (.agg [(.int .i64 g_1.1), (Enc.enc (g_1.2 : List (Int × Int)))]))), (4, (.sl .nl (Enc.shp Int) 0 [])), (5, (.bool false))] ⟨(keep_clear (s := s) (pk := [2]) h1 rfl (Enc.map_enc _ (parents_2 : List Int))), rfl, rfl, rfl⟩ ?_
  rintro s ⟨h1, h2, h4, h5⟩
  refine .nsq ?_
  refine .seq ?_
  refine .seq ?_
  refine run_reg ?_
  refine e_end ?_
  refine g_v1 (t := 1) (u := (Enc.enc (parents_2 : List Int))) (Enc.enc (parents_2 : List Int)) h1 rfl rfl ?_
  refine g_v (.int .i64 (parents_2.length : Int)) (ev_len (xs := parents_2) rfl) ?_
  refine g_v1 (t := 2) (u := (.ref (.bx 2) 0 [] (.agg [(.int .i64 g_1.1), (Enc.enc (g_1.2 : List (Int × Int)))]))) (.ref (.bx 2) 0 [0] (.int .i64 g_1.1)) h2 rfl rfl ?_
  refine g_v1 (t := 13) (u := (.ref (.bx 2) 0 [0] (.int .i64 g_1.1))) (.int .i64 g_1.1) rfl rfl rfl ?_
  refine g_v2 (t1 := 12) (t2 := 14) (u1 := (.int .i64 (parents_2.length : Int))) (u2 := (.int .i64 g_1.1)) (.bool ((parents_2.length : Int) != g_1.1)) rfl rfl rfl rfl ?_
  refine g_v1 (t := 15) (u := (.bool ((parents_2.length : Int) != g_1.1))) (.bool ((parents_2.length : Int) != g_1.1)) rfl rfl rfl ?_
  refine split_on (c := ((parents_2.length : Int) != g_1.1)) h (fun hg6 h => ?_) (fun hg6 h => ?_)
  · refine g_no (Eq.trans (b := .bool ((parents_2.length : Int) != g_1.1)) rfl (congrArg V.bool hg6)) ?_
    refine g_no (Eq.trans (b := .bool ((parents_2.length : Int) != g_1.1)) rfl (congrArg V.bool hg6)) ?_
    refine g_no (Eq.trans (b := .bool ((parents_2.length : Int) != g_1.1)) rfl (congrArg V.bool hg6)) ?_
    refine g_no (Eq.trans (b := .bool ((parents_2.length : Int) != g_1.1)) rfl (congrArg V.bool hg6)) ?_
    refine g_no (Eq.trans (b := .bool ((parents_2.length : Int) != g_1.1)) rfl (congrArg V.bool hg6)) ?_
    refine g_no (Eq.trans (b := .bool ((parents_2.length : Int) != g_1.1)) rfl (congrArg V.bool hg6)) ?_
    refine g_v2 (t1 := 16) (t2 := 22) (u1 := (.bool true)) (u2 := (.tup [])) (.bool true) (Eq.trans (b := .bool ((parents_2.length : Int) != g_1.1)) rfl (congrArg V.bool hg6)) rfl rfl rfl ?_
    refine g_end ?_
    refine e_end ?_
    refine renew [(1, (Enc.enc (parents_2 : List Int))), (2, (.ref (.bx 2) 0 [] (.agg [(.int .i64 g_1.1), (Enc.enc (g_1.2 : List (Int × Int)))]))), (4, (.sl .nl (Enc.shp Int) 0 [])), (5, (.bool false)), (23, (.bool true))] ⟨h1, h2, h4, h5, rfl⟩ ?_
    rintro s ⟨h1, h2, h4, h5, h23⟩
    exact t_f51_j3 H parents_2 g_1 true _ ⟨h1, h2, h4, h5, h23⟩ h
  · refine g_yes (Eq.trans (b := .bool ((parents_2.length : Int) != g_1.1)) rfl (congrArg V.bool hg6)) (g_v1 (t := 1) (u := (Enc.enc (parents_2 : List Int))) (Enc.enc (parents_2 : List Int)) h1 rfl rfl ?_)
    refine g_yes (Eq.trans (b := .bool ((parents_2.length : Int) != g_1.1)) rfl (congrArg V.bool hg6)) (g_v1 (t := 2) (u := (.ref (.bx 2) 0 [] (.agg [(.int .i64 g_1.1), (Enc.enc (g_1.2 : List (Int × Int)))]))) (.ref (.bx 2) 0 [0] (.int .i64 g_1.1)) h2 rfl rfl ?_)
    refine g_yes (Eq.trans (b := .bool ((parents_2.length : Int) != g_1.1)) rfl (congrArg V.bool hg6)) (g_v1 (t := 18) (u := (.ref (.bx 2) 0 [0] (.int .i64 g_1.1))) (.int .i64 g_1.1) rfl rfl rfl ?_)
    refine g_yes (Eq.trans (b := .bool ((parents_2.length : Int) != g_1.1)) rfl (congrArg V.bool hg6)) (g_v1 (t := 19) (u := (.int .i64 g_1.1)) (.int .i64 (w64 (g_1.1 - 1))) rfl rfl rfl ?_)
    obtain ⟨r_129, E_r_129, h⟩ := bind_some h
    refine g_yes (Eq.trans (b := .bool ((parents_2.length : Int) != g_1.1)) rfl (congrArg V.bool hg6)) (g_call (m := 0) (al := false) (r := (Enc.enc (r_129 : Bool))) [Enc.enc (parents_2 : (List Int)), Enc.enc ((-1) : Int), Enc.enc (w64 (g_1.1 - 1) : Int)] (ta_cons (v := (Enc.enc (parents_2 : List Int))) rfl rfl (Enc.erase_enc (parents_2 : (List Int))) (ta_cons (v := (.int .i64 (-1))) rfl rfl rfl (ta_cons (v := (.int .i64 (w64 (g_1.1 - 1)))) rfl rfl rfl ta_nil))) (H.c101 _ _ _ _ E_r_129) H.g101 rfl rfl rfl rfl ?_)
    refine g_yes (Eq.trans (b := .bool ((parents_2.length : Int) != g_1.1)) rfl (congrArg V.bool hg6)) (g_v1 (t := 21) (u := (.bool r_129)) (.bool (!r_129)) rfl rfl rfl ?_)
    refine g_v2 (t1 := 16) (t2 := 22) (u1 := (.bool false)) (u2 := (.bool (!r_129))) (.bool (!r_129)) (Eq.trans (b := .bool ((parents_2.length : Int) != g_1.1)) rfl (congrArg V.bool hg6)) rfl rfl rfl ?_
    refine g_end ?_
    refine e_end ?_
    refine renew [(1, (Enc.enc (parents_2 : List Int))), (2, (.ref (.bx 2) 0 [] (.agg [(.int .i64 g_1.1), (Enc.enc (g_1.2 : List (Int × Int)))]))), (4, (.sl .nl (Enc.shp Int) 0 [])), (5, (.bool false)), (23, (.bool (!r_129)))] ⟨h1, h2, h4, h5, rfl⟩ ?_
    rintro s ⟨h1, h2, h4, h5, h23⟩
    exact t_f51_j3 H parents_2 g_1 (!r_129) _ ⟨h1, h2, h4, h5, h23⟩ h
end
def e51 (F : Nat) : Ent := ⟨51, dn2 (i_forestLists F) (fun (r : ((List Int) × Bool)) => (.tup [Enc.enc (r.1 : (List Int)), Enc.enc (r.2 : Bool)])), 0, true⟩
theorem o51 {D : Den} {σ : Sig} {F : Nat} (hF : Fits2 Try.prog D σ) (H : H51 D σ F) : (e51 F).Ok Try.prog := by
  refine ⟨fun args r h => ?_, ⟨Try.f51, Try.func51, rfl, rfl⟩⟩
  obtain ⟨x0, x1, y, rfl, hy, rfl⟩ := dn2_open h
  exact contract_run hF (by kernel_rfl) Try.func51 rfl c51 (show 2 ≤ Try.f51.ntmps by decide) (t51 H x0 x1 _ ⟨rfl, rfl⟩ hy)
/- math/bits.OnesCount64 -/
def A103_7 : AC := (AC.seq (AC.reg [] [(I.mk (some 32) none false (X.v (A.mov (O.t 0)))), (I.mk (some 33) none false (X.v (A.conv IntKind.i64 (O.t 32)))), (I.mk (some 34) none false (X.v (A.bin BinOp.and (O.t 33) (O.k (V.int IntKind.i64 (Int.ofNat 127)))))), (I.mk (some 2) none false (X.v (A.mov (O.t 34))))] []) AC.ret)
def A103_6 : AC := (AC.seq (AC.reg [] [(I.mk (some 28) none false (X.v (A.mov (O.t 0)))), (I.mk (some 29) none false (X.v (A.mov (O.t 0)))), (I.mk (some 30) none false (X.v (A.bin BinOp.shr (O.t 29) (O.k (V.int IntKind.u64 (Int.ofNat 32)))))), (I.mk (some 31) none false (X.v (A.bin BinOp.add (O.t 28) (O.t 30)))), (I.mk (some 0) none false (X.v (A.mov (O.t 31))))] []) A103_7)
def A103_5 : AC := (AC.seq (AC.reg [] [(I.mk (some 24) none false (X.v (A.mov (O.t 0)))), (I.mk (some 25) none false (X.v (A.mov (O.t 0)))), (I.mk (some 26) none false (X.v (A.bin BinOp.shr (O.t 25) (O.k (V.int IntKind.u64 (Int.ofNat 16)))))), (I.mk (some 27) none false (X.v (A.bin BinOp.add (O.t 24) (O.t 26)))), (I.mk (some 0) none false (X.v (A.mov (O.t 27))))] []) A103_6)
def A103_4 : AC := (AC.seq (AC.reg [] [(I.mk (some 20) none false (X.v (A.mov (O.t 0)))), (I.mk (some 21) none false (X.v (A.mov (O.t 0)))), (I.mk (some 22) none false (X.v (A.bin BinOp.shr (O.t 21) (O.k (V.int IntKind.u64 (Int.ofNat 8)))))), (I.mk (some 23) none false (X.v (A.bin BinOp.add (O.t 20) (O.t 22)))), (I.mk (some 0) none false (X.v (A.mov (O.t 23))))] []) A103_5)
def A103_3 : AC := (AC.seq (AC.reg [] [(I.mk (some 15) none false (X.v (A.mov (O.t 0)))), (I.mk (some 16) none false (X.v (A.bin BinOp.shr (O.t 15) (O.k (V.int IntKind.u64 (Int.ofNat 4)))))), (I.mk (some 17) none false (X.v (A.mov (O.t 0)))), (I.mk (some 18) none false (X.v (A.bin BinOp.add (O.t 16) (O.t 17)))), (I.mk (some 19) none false (X.v (A.bin BinOp.and (O.t 18) (O.k (V.int IntKind.u64 (Int.ofNat 1085102592571150095)))))), (I.mk (some 0) none false (X.v (A.mov (O.t 19))))] []) A103_4)
def A103_2 : AC := (AC.seq (AC.reg [] [(I.mk (some 9) none false (X.v (A.mov (O.t 0)))), (I.mk (some 10) none false (X.v (A.bin BinOp.shr (O.t 9) (O.k (V.int IntKind.u64 (Int.ofNat 2)))))), (I.mk (some 11) none false (X.v (A.bin BinOp.and (O.t 10) (O.k (V.int IntKind.u64 (Int.ofNat 3689348814741910323)))))), (I.mk (some 12) none false (X.v (A.mov (O.t 0)))), (I.mk (some 13) none false (X.v (A.bin BinOp.and (O.t 12) (O.k (V.int IntKind.u64 (Int.ofNat 3689348814741910323)))))), (I.mk (some 14) none false (X.v (A.bin BinOp.add (O.t 11) (O.t 13)))), (I.mk (some 0) none false (X.v (A.mov (O.t 14))))] []) A103_3)
def A103_1 : AC := (AC.seq (AC.reg [] [(I.mk (some 3) none false (X.v (A.mov (O.t 0)))), (I.mk (some 4) none false (X.v (A.bin BinOp.shr (O.t 3) (O.k (V.int IntKind.u64 (Int.ofNat 1)))))), (I.mk (some 5) none false (X.v (A.bin BinOp.and (O.t 4) (O.k (V.int IntKind.u64 (Int.ofNat 6148914691236517205)))))), (I.mk (some 6) none false (X.v (A.mov (O.t 0)))), (I.mk (some 7) none false (X.v (A.bin BinOp.and (O.t 6) (O.k (V.int IntKind.u64 (Int.ofNat 6148914691236517205)))))), (I.mk (some 8) none false (X.v (A.bin BinOp.add (O.t 5) (O.t 7)))), (I.mk (some 0) none false (X.v (A.mov (O.t 8))))] []) A103_2)
def A103 : AC := (AC.seq (AC.reg [] [(I.mk (some 2) none false (X.v (A.mov (O.k (V.int IntKind.i64 (Int.ofNat 0))))))] []) A103_1)
def an103 : List An := []
theorem c103 : cC Try.prog Try.f103.ntmps an103 (Try.f103.body.getD .skip) = some A103 := by kernel_rfl
structure H103 (D : Den) (σ : Sig) (F : Nat) : Prop where
  mk ::
abbrev R103 (r : Int) : (Nat → V) → Prop := RR Try.prog [.tmp 2] 0 false (Enc.enc (r : Int))
section
variable {D : Den} {σ : Sig} {F : Nat} {r : Int}
def bits_OnesCount64 (F : Nat) (x_1 : (Kd .u64)) : Option Int :=
  (shrI .u64 x_1.v 1).bind fun q_2 =>
  (shrI .u64 (IntKind.u64.wrap ((iand .u64 q_2 6148914691236517205) + (iand .u64 x_1.v 6148914691236517205))) 2).bind fun q_3 =>
  (shrI .u64 (IntKind.u64.wrap ((iand .u64 q_3 3689348814741910323) + (iand .u64 (IntKind.u64.wrap ((iand .u64 q_2 6148914691236517205) + (iand .u64 x_1.v 6148914691236517205))) 3689348814741910323))) 4).bind fun q_4 =>
  (shrI .u64 (iand .u64 (IntKind.u64.wrap (q_4 + (IntKind.u64.wrap ((iand .u64 q_3 3689348814741910323) + (iand .u64 (IntKind.u64.wrap ((iand .u64 q_2 6148914691236517205) + (iand .u64 x_1.v 6148914691236517205))) 3689348814741910323))))) 1085102592571150095) 8).bind fun q_5 =>
  (shrI .u64 (IntKind.u64.wrap ((iand .u64 (IntKind.u64.wrap (q_4 + (IntKind.u64.wrap ((iand .u64 q_3 3689348814741910323) + (iand .u64 (IntKind.u64.wrap ((iand .u64 q_2 6148914691236517205) + (iand .u64 x_1.v 6148914691236517205))) 3689348814741910323))))) 1085102592571150095) + q_5)) 16).bind fun q_6 =>
  (shrI .u64 (IntKind.u64.wrap ((IntKind.u64.wrap ((iand .u64 (IntKind.u64.wrap (q_4 + (IntKind.u64.wrap ((iand .u64 q_3 3689348814741910323) + (iand .u64 (IntKind.u64.wrap ((iand .u64 q_2 6148914691236517205) + (iand .u64 x_1.v 6148914691236517205))) 3689348814741910323))))) 1085102592571150095) + q_5)) + q_6)) 32).bind fun q_7 =>
  some (iand .i64 (w64 (IntKind.u64.wrap ((IntKind.u64.wrap ((IntKind.u64.wrap ((iand .u64 (IntKind.u64.wrap (q_4 + (IntKind.u64.wrap ((iand .u64 q_3 3689348814741910323) + (iand .u64 (IntKind.u64.wrap ((iand .u64 q_2 6148914691236517205) + (iand .u64 x_1.v 6148914691236517205))) 3689348814741910323))))) 1085102592571150095) + q_5)) + q_6)) + q_7))) 127)
theorem t103 (H : H103 D σ F) (x_1 : (Kd .u64)) (s : Nat → V) (hs : Facts [(0, (.int .u64 x_1.v))] s) (h : bits_OnesCount64 F x_1 = some r) : Run D σ (R103 r) (.run A103 []) s := by
  unfold bits_OnesCount64 at h
  have h0 := hs
  refine .seq ?_
  refine run_reg ?_
  refine e_end ?_
  refine g_v0 (.int .i64 0) rfl rfl ?_
  refine g_end ?_
  refine e_end ?_
  refine renew [(0, (.int .u64 x_1.v)), (2, (.int .i64 0))] ⟨h0, rfl⟩ ?_
  rintro s ⟨h0, h2⟩
  refine .nsq ?_
  refine .seq ?_
  refine run_reg ?_
  refine e_end ?_
  refine g_v1 (t := 0) (u := (.int .u64 x_1.v)) (.int .u64 x_1.v) h0 rfl rfl ?_
  obtain ⟨q_2, E_q_2, h⟩ := bind_some h
  refine g_v (.int .u64 q_2) (ev_shr rfl rfl E_q_2) ?_
  refine g_v1 (t := 4) (u := (.int .u64 q_2)) (.int .u64 (iand .u64 q_2 6148914691236517205)) rfl rfl rfl ?_
  refine g_v1 (t := 0) (u := (.int .u64 x_1.v)) (.int .u64 x_1.v) h0 rfl rfl ?_
  refine g_v1 (t := 6) (u := (.int .u64 x_1.v)) (.int .u64 (iand .u64 x_1.v 6148914691236517205)) rfl rfl rfl ?_
  refine g_v2 (t1 := 5) (t2 := 7) (u1 := (.int .u64 (iand .u64 q_2 6148914691236517205))) (u2 := (.int .u64 (iand .u64 x_1.v 6148914691236517205))) (.int .u64 (IntKind.u64.wrap ((iand .u64 q_2 6148914691236517205) + (iand .u64 x_1.v 6148914691236517205)))) rfl rfl rfl rfl ?_
  refine g_v1 (t := 8) (u := (.int .u64 (IntKind.u64.wrap ((iand .u64 q_2 6148914691236517205) + (iand .u64 x_1.v 6148914691236517205))))) (.int .u64 (IntKind.u64.wrap ((iand .u64 q_2 6148914691236517205) + (iand .u64 x_1.v 6148914691236517205)))) rfl rfl rfl ?_
  refine g_end ?_
  refine e_end ?_
  refine renew [(0, (.int .u64 (IntKind.u64.wrap ((iand .u64 q_2 6148914691236517205) + (iand .u64 x_1.v 6148914691236517205))))), (2, (.int .i64 0))] ⟨rfl, h2⟩ ?_
  rintro s ⟨h0, h2⟩
  refine .nsq ?_
  refine .seq ?_
  refine run_reg ?_
  refine e_end ?_
  refine g_v1 (t := 0) (u := (.int .u64 (IntKind.u64.wrap ((iand .u64 q_2 6148914691236517205) + (iand .u64 x_1.v 6148914691236517205))))) (.int .u64 (IntKind.u64.wrap ((iand .u64 q_2 6148914691236517205) + (iand .u64 x_1.v 6148914691236517205)))) h0 rfl rfl ?_
  obtain ⟨q_3, E_q_3, h⟩ := bind_some h
  refine g_v (.int .u64 q_3) (ev_shr rfl rfl E_q_3) ?_
  refine g_v1 (t := 10) (u := (.int .u64 q_3)) (.int .u64 (iand .u64 q_3 3689348814741910323)) rfl rfl rfl ?_
  refine g_v1 (t := 0) (u := (.int .u64 (IntKind.u64.wrap ((iand .u64 q_2 6148914691236517205) + (iand .u64 x_1.v 6148914691236517205))))) (.int .u64 (IntKind.u64.wrap ((iand .u64 q_2 6148914691236517205) + (iand .u64 x_1.v 6148914691236517205)))) h0 rfl rfl ?_
  refine g_v1 (t := 12) (u := (.int .u64 (IntKind.u64.wrap ((iand .u64 q_2 6148914691236517205) + (iand .u64 x_1.v 6148914691236517205))))) (.int .u64 (iand .u64 (IntKind.u64.wrap ((iand .u64 q_2 6148914691236517205) + (iand .u64 x_1.v 6148914691236517205))) 3689348814741910323)) rfl rfl rfl ?_
  refine g_v2 (t1 := 11) (t2 := 13) (u1 := (.int .u64 (iand .u64 q_3 3689348814741910323))) (u2 := (.int .u64 (iand .u64 (IntKind.u64.wrap ((iand .u64 q_2 6148914691236517205) + (iand .u64 x_1.v 6148914691236517205))) 3689348814741910323))) (.int .u64 (IntKind.u64.wrap ((iand .u64 q_3 3689348814741910323) + (iand .u64 (IntKind.u64.wrap ((iand .u64 q_2 6148914691236517205) + (iand .u64 x_1.v 6148914691236517205))) 3689348814741910323)))) rfl rfl rfl rfl ?_
  refine g_v1 (t := 14) (u := (.int .u64 (IntKind.u64.wrap ((iand .u64 q_3 3689348814741910323) + (iand .u64 (IntKind.u64.wrap ((iand .u64 q_2 6148914691236517205) + (iand .u64 x_1.v 6148914691236517205))) 3689348814741910323))))) (.int .u64 (IntKind.u64.wrap ((iand .u64 q_3 3689348814741910323) + (iand .u64 (IntKind.u64.wrap ((iand .u64 q_2 6148914691236517205) + (iand .u64 x_1.v 6148914691236517205))) 3689348814741910323)))) rfl rfl rfl ?_
  refine g_end ?_
  refine e_end ?_
  refine renew [(0, (.int .u64 (IntKind.u64.wrap ((iand .u64 q_3 3689348814741910323) + (iand .u64 (IntKind.u64.wrap ((iand .u64 q_2 6148914691236517205) + (iand .u64 x_1.v 6148914691236517205))) 3689348814741910323))))), (2, (.int .i64 0))] ⟨rfl, h2⟩ ?_
  rintro s ⟨h0, h2⟩
  refine .nsq ?_
  refine .seq ?_
  refine run_reg ?_
  refine e_end ?_
  refine g_v1 (t := 0) (u := (.int .u64 (IntKind.u64.wrap ((iand .u64 q_3 3689348814741910323) + (iand .u64 (IntKind.u64.wrap ((iand .u64 q_2 6148914691236517205) + (iand .u64 x_1.v 6148914691236517205))) 3689348814741910323))))) (.int .u64 (IntKind.u64.wrap ((iand .u64 q_3 3689348814741910323) + (iand .u64 (IntKind.u64.wrap ((iand .u64 q_2 6148914691236517205) + (iand .u64 x_1.v 6148914691236517205))) 3689348814741910323)))) h0 rfl rfl ?_
  obtain ⟨q_4, E_q_4, h⟩ := bind_some h
  refine g_v (.int .u64 q_4) (ev_shr rfl rfl E_q_4) ?_
  refine g_v1 (t := 0) (u := (.int .u64 (IntKind.u64.wrap ((iand .u64 q_3 3689348814741910323) + (iand .u64 (IntKind.u64.wrap ((iand .u64 q_2 6148914691236517205) + (iand .u64 x_1.v 6148914691236517205))) 3689348814741910323))))) (.int .u64 (IntKind.u64.wrap ((iand .u64 q_3 3689348814741910323) + (iand .u64 (IntKind.u64.wrap ((iand .u64 q_2 6148914691236517205) + (iand .u64 x_1.v 6148914691236517205))) 3689348814741910323)))) h0 rfl rfl ?_
  refine g_v2 (t1 := 16) (t2 := 17) (u1 := (.int .u64 q_4)) (u2 := (.int .u64 (IntKind.u64.wrap ((iand .u64 q_3 3689348814741910323) + (iand .u64 (IntKind.u64.wrap ((iand .u64 q_2 6148914691236517205) + (iand .u64 x_1.v 6148914691236517205))) 3689348814741910323))))) (.int .u64 (IntKind.u64.wrap (q_4 + (IntKind.u64.wrap ((iand .u64 q_3 3689348814741910323) + (iand .u64 (IntKind.u64.wrap ((iand .u64 q_2 6148914691236517205) + (iand .u64 x_1.v 6148914691236517205))) 3689348814741910323)))))) rfl rfl rfl rfl ?_
  refine g_v1 (t := 18) (u := (.int .u64 (IntKind.u64.wrap (q_4 + (IntKind.u64.wrap ((iand .u64 q_3 3689348814741910323) + (iand .u64 (IntKind.u64.wrap ((iand .u64 q_2 6148914691236517205) + (iand .u64 x_1.v 6148914691236517205))) 3689348814741910323))))))) (.int .u64 (iand .u64 (IntKind.u64.wrap (q_4 + (IntKind.u64.wrap ((iand .u64 q_3 3689348814741910323) + (iand .u64 (IntKind.u64.wrap ((iand .u64 q_2 6148914691236517205) + (iand .u64 x_1.v 6148914691236517205))) 3689348814741910323))))) 1085102592571150095)) rfl rfl rfl ?_
  refine g_v1 (t := 19) (u := (.int .u64 (iand .u64 (IntKind.u64.wrap (q_4 + (IntKind.u64.wrap ((iand .u64 q_3 3689348814741910323) + (iand .u64 (IntKind.u64.wrap ((iand .u64 q_2 6148914691236517205) + (iand .u64 x_1.v 6148914691236517205))) 3689348814741910323))))) 1085102592571150095))) (.int .u64 (iand .u64 (IntKind.u64.wrap (q_4 + (IntKind.u64.wrap ((iand .u64 q_3 3689348814741910323) + (iand .u64 (IntKind.u64.wrap ((iand .u64 q_2 6148914691236517205) + (iand .u64 x_1.v 6148914691236517205))) 3689348814741910323))))) 1085102592571150095)) rfl rfl rfl ?_
  refine g_end ?_
  refine e_end ?_
  refine renew [(0, (.int .u64 (iand .u64 (IntKind.u64.wrap (q_4 + (IntKind.u64.wrap ((iand .u64 q_3 3689348814741910323) + (iand .u64 (IntKind.u64.wrap ((iand .u64 q_2 6148914691236517205) + (iand .u64 x_1.v 6148914691236517205))) 3689348814741910323))))) 1085102592571150095))), (2, (.int .i64 0))] ⟨rfl, h2⟩ ?_
  rintro s ⟨h0, h2⟩
  refine .nsq ?_
  refine .seq ?_
  refine run_reg ?_
  refine e_end ?_
  refine g_v1 (t := 0) (u := (.int .u64 (iand .u64 (IntKind.u64.wrap (q_4 + (IntKind.u64.wrap ((iand .u64 q_3 3689348814741910323) + (iand .u64 (IntKind.u64.wrap ((iand .u64 q_2 6148914691236517205) + (iand .u64 x_1.v 6148914691236517205))) 3689348814741910323))))) 1085102592571150095))) (.int .u64 (iand .u64 (IntKind.u64.wrap (q_4 + (IntKind.u64.wrap ((iand .u64 q_3 3689348814741910323) + (iand .u64 (IntKind.u64.wrap ((iand .u64 q_2 6148914691236517205) + (iand .u64 x_1.v 6148914691236517205))) 3689348814741910323))))) 1085102592571150095)) h0 rfl rfl ?_
  refine g_v1 (t := 0) (u := (.int .u64 (iand .u64 (IntKind.u64.wrap (q_4 + (IntKind.u64.wrap ((iand .u64 q_3 3689348814741910323) + (iand .u64 (IntKind.u64.wrap ((iand .u64 q_2 6148914691236517205) + (iand .u64 x_1.v 6148914691236517205))) 3689348814741910323))))) 1085102592571150095))) (.int .u64 (iand .u64 (IntKind.u64.wrap (q_4 + (IntKind.u64.wrap ((iand .u64 q_3 3689348814741910323) + (iand .u64 (IntKind.u64.wrap ((iand .u64 q_2 6148914691236517205) + (iand .u64 x_1.v 6148914691236517205))) 3689348814741910323))))) 1085102592571150095)) h0 rfl rfl ?_
  obtain ⟨q_5, E_q_5, h⟩ := bind_some h
  refine g_v (.int .u64 q_5) (ev_shr rfl rfl E_q_5) ?_
  refine g_v2 (t1 := 20) (t2 := 22) (u1 := (.int .u64 (iand .u64 (IntKind.u64.wrap (q_4 + (IntKind.u64.wrap ((iand .u64 q_3 3689348814741910323) + (iand .u64 (IntKind.u64.wrap ((iand .u64 q_2 6148914691236517205) + (iand .u64 x_1.v 6148914691236517205))) 3689348814741910323))))) 1085102592571150095))) (u2 := (.int .u64 q_5)) (.int .u64 (IntKind.u64.wrap ((iand .u64 (IntKind.u64.wrap (q_4 + (IntKind.u64.wrap ((iand .u64 q_3 3689348814741910323) + (iand .u64 (IntKind.u64.wrap ((iand .u64 q_2 6148914691236517205) + (iand .u64 x_1.v 6148914691236517205))) 3689348814741910323))))) 1085102592571150095) + q_5))) rfl rfl rfl rfl ?_
  refine g_v1 (t := 23) (u := (.int .u64 (IntKind.u64.wrap ((iand .u64 (IntKind.u64.wrap (q_4 + (IntKind.u64.wrap ((iand .u64 q_3 3689348814741910323) + (iand .u64 (IntKind.u64.wrap ((iand .u64 q_2 6148914691236517205) + (iand .u64 x_1.v 6148914691236517205))) 3689348814741910323))))) 1085102592571150095) + q_5)))) (.int .u64 (IntKind.u64.wrap ((iand .u64 (IntKind.u64.wrap (q_4 + (IntKind.u64.wrap ((iand .u64 q_3 3689348814741910323) + (iand .u64 (IntKind.u64.wrap ((iand .u64 q_2 6148914691236517205) + (iand .u64 x_1.v 6148914691236517205))) 3689348814741910323))))) 1085102592571150095) + q_5))) rfl rfl rfl ?_
  refine g_end ?_
  refine e_end ?_
  refine renew [(0, (.int .u64 (IntKind.u64.wrap ((iand .u64 (IntKind.u64.wrap (q_4 + (IntKind.u64.wrap ((iand .u64 q_3 3689348814741910323) + (iand .u64 (IntKind.u64.wrap ((iand .u64 q_2 6148914691236517205) + (iand .u64 x_1.v 6148914691236517205))) 3689348814741910323))))) 1085102592571150095) + q_5)))), (2, (.int .i64 0))] ⟨rfl, h2⟩ ?_
  rintro s ⟨h0, h2⟩
  refine .nsq ?_
  refine .seq ?_
  refine run_reg ?_
  refine e_end ?_
  refine g_v1 (t := 0) (u := (.int .u64 (IntKind.u64.wrap ((iand .u64 (IntKind.u64.wrap (q_4 + (IntKind.u64.wrap ((iand .u64 q_3 3689348814741910323) + (iand .u64 (IntKind.u64.wrap ((iand .u64 q_2 6148914691236517205) + (iand .u64 x_1.v 6148914691236517205))) 3689348814741910323))))) 1085102592571150095) + q_5)))) (.int .u64 (IntKind.u64.wrap ((iand .u64 (IntKind.u64.wrap (q_4 + (IntKind.u64.wrap ((iand .u64 q_3 3689348814741910323) + (iand .u64 (IntKind.u64.wrap ((iand .u64 q_2 6148914691236517205) + (iand .u64 x_1.v 6148914691236517205))) 3689348814741910323))))) 1085102592571150095) + q_5))) h0 rfl rfl ?_
  refine g_v1 (t := 0) (u := (.int .u64 (IntKind.u64.wrap ((iand .u64 (IntKind.u64.wrap (q_4 + (IntKind.u64.wrap ((iand .u64 q_3 3689348814741910323) + (iand .u64 (IntKind.u64.wrap ((iand .u64 q_2 6148914691236517205) + (iand .u64 x_1.v 6148914691236517205))) 3689348814741910323))))) 1085102592571150095) + q_5)))) (.int .u64 (IntKind.u64.wrap ((iand .u64 (IntKind.u64.wrap (q_4 + (IntKind.u64.wrap ((iand .u64 q_3 3689348814741910323) + (iand .u64 (IntKind.u64.wrap ((iand .u64 q_2 6148914691236517205) + (iand .u64 x_1.v 6148914691236517205))) 3689348814741910323))))) 1085102592571150095) + q_5))) h0 rfl rfl ?_
  obtain ⟨q_6, E_q_6, h⟩ := bind_some h
  refine g_v (.int .u64 q_6) (ev_shr rfl rfl E_q_6) ?_
  refine g_v2 (t1 := 24) (t2 := 26) (u1 := (.int .u64 (IntKind.u64.wrap ((iand .u64 (IntKind.u64.wrap (q_4 + (IntKind.u64.wrap ((iand .u64 q_3 3689348814741910323) + (iand .u64 (IntKind.u64.wrap ((iand .u64 q_2 6148914691236517205) + (iand .u64 x_1.v 6148914691236517205))) 3689348814741910323))))) 1085102592571150095) + q_5)))) (u2 := (.int .u64 q_6)) (.int .u64 (IntKind.u64.wrap ((IntKind.u64.wrap ((iand .u64 (IntKind.u64.wrap (q_4 + (IntKind.u64.wrap ((iand .u64 q_3 3689348814741910323) + (iand .u64 (IntKind.u64.wrap ((iand .u64 q_2 6148914691236517205) + (iand .u64 x_1.v 6148914691236517205))) 3689348814741910323))))) 1085102592571150095) + q_5)) + q_6))) rfl rfl rfl rfl ?_
  refine g_v1 (t := 27) (u := (.int .u64 (IntKind.u64.wrap ((IntKind.u64.wrap ((iand .u64 (IntKind.u64.wrap (q_4 + (IntKind.u64.wrap ((iand .u64 q_3 3689348814741910323) + (iand .u64 (IntKind.u64.wrap ((iand .u64 q_2 6148914691236517205) + (iand .u64 x_1.v 6148914691236517205))) 3689348814741910323))))) 1085102592571150095) + q_5)) + q_6)))) (.int .u64 (IntKind.u64.wrap ((IntKind.u64.wrap ((iand .u64 (IntKind.u64.wrap (q_4 + (IntKind.u64.wrap ((iand .u64 q_3 3689348814741910323) + (iand .u64 (IntKind.u64.wrap ((iand .u64 q_2 6148914691236517205) + (iand .u64 x_1.v 6148914691236517205))) 3689348814741910323))))) 1085102592571150095) + q_5)) + q_6))) rfl rfl rfl ?_
  refine g_end ?_
  refine e_end ?_
  refine renew [(0, (.int .u64 (IntKind.u64.wrap ((IntKind.u64.wrap ((iand .u64 (IntKind.u64.wrap (q_4 + (IntKind.u64.wrap ((iand .u64 q_3 3689348814741910323) + (iand .u64 (IntKind.u64.wrap ((iand .u64 q_2 6148914691236517205) + (iand .u64 x_1.v 6148914691236517205))) 3689348814741910323))))) 1085102592571150095) + q_5)) + q_6)))), (2, (.int .i64 0))] ⟨rfl, h2⟩ ?_
  rintro s ⟨h0, h2⟩
  refine .nsq ?_
  refine .seq ?_
  refine run_reg ?_
  refine e_end ?_
  refine g_v1 (t := 0) (u := (.int .u64 (IntKind.u64.wrap ((IntKind.u64.wrap ((iand .u64 (IntKind.u64.wrap (q_4 + (IntKind.u64.wrap ((iand .u64 q_3 3689348814741910323) + (iand .u64 (IntKind.u64.wrap ((iand .u64 q_2 6148914691236517205) + (iand .u64 x_1.v 6148914691236517205))) 3689348814741910323))))) 1085102592571150095) + q_5)) + q_6)))) (.int .u64 (IntKind.u64.wrap ((IntKind.u64.wrap ((iand .u64 (IntKind.u64.wrap (q_4 + (IntKind.u64.wrap ((iand .u64 q_3 3689348814741910323) + (iand .u64 (IntKind.u64.wrap ((iand .u64 q_2 6148914691236517205) + (iand .u64 x_1.v 6148914691236517205))) 3689348814741910323))))) 1085102592571150095) + q_5)) + q_6))) h0 rfl rfl ?_
  refine g_v1 (t := 0) (u := (.int .u64 (IntKind.u64.wrap ((IntKind.u64.wrap ((iand .u64 (IntKind.u64.wrap (q_4 + (IntKind.u64.wrap ((iand .u64 q_3 3689348814741910323) + (iand .u64 (IntKind.u64.wrap ((iand .u64 q_2 6148914691236517205) + (iand .u64 x_1.v 6148914691236517205))) 3689348814741910323))))) 1085102592571150095) + q_5)) + q_6)))) (.int .u64 (IntKind.u64.wrap ((IntKind.u64.wrap ((iand .u64 (IntKind.u64.wrap (q_4 + (IntKind.u64.wrap ((iand .u64 q_3 3689348814741910323) + (iand .u64 (IntKind.u64.wrap ((iand .u64 q_2 6148914691236517205) + (iand .u64 x_1.v 6148914691236517205))) 3689348814741910323))))) 1085102592571150095) + q_5)) + q_6))) h0 rfl rfl ?_
  obtain ⟨q_7, E_q_7, h⟩ := bind_some h
  refine g_v (.int .u64 q_7) (ev_shr rfl rfl E_q_7) ?_
  refine g_v2 (t1 := 28) (t2 := 30) (u1 := (.int .u64 (IntKind.u64.wrap ((IntKind.u64.wrap ((iand .u64 (IntKind.u64.wrap (q_4 + (IntKind.u64.wrap ((iand .u64 q_3 3689348814741910323) + (iand .u64 (IntKind.u64.wrap ((iand .u64 q_2 6148914691236517205) + (iand .u64 x_1.v 6148914691236517205))) 3689348814741910323))))) 1085102592571150095) + q_5)) + q_6)))) (u2 := (.int .u64 q_7)) (.int .u64 (IntKind.u64.wrap ((IntKind.u64.wrap ((IntKind.u64.wrap ((iand .u64 (IntKind.u64.wrap (q_4 + (IntKind.u64.wrap ((iand .u64 q_3 3689348814741910323) + (iand .u64 (IntKind.u64.wrap ((iand .u64 q_2 6148914691236517205) + (iand .u64 x_1.v 6148914691236517205))) 3689348814741910323))))) 1085102592571150095) + q_5)) + q_6)) + q_7))) rfl rfl rfl rfl ?_
  refine g_v1 (t := 31) (u := (.int .u64 (IntKind.u64.wrap ((IntKind.u64.wrap ((IntKind.u64.wrap ((iand .u64 (IntKind.u64.wrap (q_4 + (IntKind.u64.wrap ((iand .u64 q_3 3689348814741910323) + (iand .u64 (IntKind.u64.wrap ((iand .u64 q_2 6148914691236517205) + (iand .u64 x_1.v 6148914691236517205))) 3689348814741910323))))) 1085102592571150095) + q_5)) + q_6)) + q_7)))) (.int .u64 (IntKind.u64.wrap ((IntKind.u64.wrap ((IntKind.u64.wrap ((iand .u64 (IntKind.u64.wrap (q_4 + (IntKind.u64.wrap ((iand .u64 q_3 3689348814741910323) + (iand .u64 (IntKind.u64.wrap ((iand .u64 q_2 6148914691236517205) + (iand .u64 x_1.v 6148914691236517205))) 3689348814741910323))))) 1085102592571150095) + q_5)) + q_6)) + q_7))) rfl rfl rfl ?_
  refine g_end ?_
  refine e_end ?_
  refine renew [(0, (.int .u64 (IntKind.u64.wrap ((IntKind.u64.wrap ((IntKind.u64.wrap ((iand .u64 (IntKind.u64.wrap (q_4 + (IntKind.u64.wrap ((iand .u64 q_3 3689348814741910323) + (iand .u64 (IntKind.u64.wrap ((iand .u64 q_2 6148914691236517205) + (iand .u64 x_1.v 6148914691236517205))) 3689348814741910323))))) 1085102592571150095) + q_5)) + q_6)) + q_7)))), (2, (.int .i64 0))] ⟨rfl, h2⟩ ?_
  rintro s ⟨h0, h2⟩
  refine .nsq ?_
  refine .seq ?_
  refine run_reg ?_
  refine e_end ?_
  refine g_v1 (t := 0) (u := (.int .u64 (IntKind.u64.wrap ((IntKind.u64.wrap ((IntKind.u64.wrap ((iand .u64 (IntKind.u64.wrap (q_4 + (IntKind.u64.wrap ((iand .u64 q_3 3689348814741910323) + (iand .u64 (IntKind.u64.wrap ((iand .u64 q_2 6148914691236517205) + (iand .u64 x_1.v 6148914691236517205))) 3689348814741910323))))) 1085102592571150095) + q_5)) + q_6)) + q_7)))) (.int .u64 (IntKind.u64.wrap ((IntKind.u64.wrap ((IntKind.u64.wrap ((iand .u64 (IntKind.u64.wrap (q_4 + (IntKind.u64.wrap ((iand .u64 q_3 3689348814741910323) + (iand .u64 (IntKind.u64.wrap ((iand .u64 q_2 6148914691236517205) + (iand .u64 x_1.v 6148914691236517205))) 3689348814741910323))))) 1085102592571150095) + q_5)) + q_6)) + q_7))) h0 rfl rfl ?_
  refine g_v1 (t := 32) (u := (.int .u64 (IntKind.u64.wrap ((IntKind.u64.wrap ((IntKind.u64.wrap ((iand .u64 (IntKind.u64.wrap (q_4 + (IntKind.u64.wrap ((iand .u64 q_3 3689348814741910323) + (iand .u64 (IntKind.u64.wrap ((iand .u64 q_2 6148914691236517205) + (iand .u64 x_1.v 6148914691236517205))) 3689348814741910323))))) 1085102592571150095) + q_5)) + q_6)) + q_7)))) (.int .i64 (w64 (IntKind.u64.wrap ((IntKind.u64.wrap ((IntKind.u64.wrap ((iand .u64 (IntKind.u64.wrap (q_4 + (IntKind.u64.wrap ((iand .u64 q_3 3689348814741910323) + (iand .u64 (IntKind.u64.wrap ((iand .u64 q_2 6148914691236517205) + (iand .u64 x_1.v 6148914691236517205))) 3689348814741910323))))) 1085102592571150095) + q_5)) + q_6)) + q_7)))) rfl rfl rfl ?_
  refine g_v1 (t := 33) (u := (.int .i64 (w64 (IntKind.u64.wrap ((IntKind.u64.wrap ((IntKind.u64.wrap ((iand .u64 (IntKind.u64.wrap (q_4 + (IntKind.u64.wrap ((iand .u64 q_3 3689348814741910323) + (iand .u64 (IntKind.u64.wrap ((iand .u64 q_2 6148914691236517205) + (iand .u64 x_1.v 6148914691236517205))) 3689348814741910323))))) 1085102592571150095) + q_5)) + q_6)) + q_7))))) (.int .i64 (iand .i64 (w64 (IntKind.u64.wrap ((IntKind.u64.wrap ((IntKind.u64.wrap ((iand .u64 (IntKind.u64.wrap (q_4 + (IntKind.u64.wrap ((iand .u64 q_3 3689348814741910323) + (iand .u64 (IntKind.u64.wrap ((iand .u64 q_2 6148914691236517205) + (iand .u64 x_1.v 6148914691236517205))) 3689348814741910323))))) 1085102592571150095) + q_5)) + q_6)) + q_7))) 127)) rfl rfl rfl ?_
  refine g_v1 (t := 34) (u := (.int .i64 (iand .i64 (w64 (IntKind.u64.wrap ((IntKind.u64.wrap ((IntKind.u64.wrap ((iand .u64 (IntKind.u64.wrap (q_4 + (IntKind.u64.wrap ((iand .u64 q_3 3689348814741910323) + (iand .u64 (IntKind.u64.wrap ((iand .u64 q_2 6148914691236517205) + (iand .u64 x_1.v 6148914691236517205))) 3689348814741910323))))) 1085102592571150095) + q_5)) + q_6)) + q_7))) 127))) (.int .i64 (iand .i64 (w64 (IntKind.u64.wrap ((IntKind.u64.wrap ((IntKind.u64.wrap ((iand .u64 (IntKind.u64.wrap (q_4 + (IntKind.u64.wrap ((iand .u64 q_3 3689348814741910323) + (iand .u64 (IntKind.u64.wrap ((iand .u64 q_2 6148914691236517205) + (iand .u64 x_1.v 6148914691236517205))) 3689348814741910323))))) 1085102592571150095) + q_5)) + q_6)) + q_7))) 127)) rfl rfl rfl ?_
  refine g_end ?_
  refine e_end ?_
  refine renew [(2, (.int .i64 (iand .i64 (w64 (IntKind.u64.wrap ((IntKind.u64.wrap ((IntKind.u64.wrap ((iand .u64 (IntKind.u64.wrap (q_4 + (IntKind.u64.wrap ((iand .u64 q_3 3689348814741910323) + (iand .u64 (IntKind.u64.wrap ((iand .u64 q_2 6148914691236517205) + (iand .u64 x_1.v 6148914691236517205))) 3689348814741910323))))) 1085102592571150095) + q_5)) + q_6)) + q_7))) 127)))] rfl ?_
  rintro s h2
  refine .nsq ?_
  refine .ret ?_
  have hr := Option.some.inj h
  subst hr
  exact rrA (res_tmp h2) rfl
end
def e103 (F : Nat) : Ent := ⟨103, dn1 (bits_OnesCount64 F) (fun (r : Int) => (Enc.enc (r : Int))), 0, false⟩
theorem o103 {D : Den} {σ : Sig} {F : Nat} (hF : Fits2 Try.prog D σ) (H : H103 D σ F) : (e103 F).Ok Try.prog := by
  refine ⟨fun args r h => ?_, ⟨Try.f103, Try.func103, rfl, rfl⟩⟩
  obtain ⟨x0, y, rfl, hy, rfl⟩ := dn1_open h
  exact contract_run hF (by kernel_rfl) Try.func103 rfl c103 (show 1 ≤ Try.f103.ntmps by decide) (t103 H x0 _ rfl hy)
/- math/bits.OnesCount -/
def A52_2 : AC := (AC.seq (AC.reg [] [(I.mk (some 6) none false (X.v (A.mov (O.t 0)))), (I.mk (some 7) none false (X.call (O.k (V.fn 103 [] [])) [(O.t 6)])), (I.mk (some 2) none false (X.v (A.mov (O.t 7))))] []) AC.ret)
def A52_1 : AC := (AC.seq (AC.cond (O.k (V.bool false)) (AC.seq (AC.reg [] [(I.mk (some 3) none false (X.v (A.mov (O.t 0)))), (I.mk (some 4) none false (X.v (A.conv IntKind.u32 (O.t 3)))), (I.mk (some 5) none false (X.call (O.k (V.fn 102 [] [])) [(O.t 4)])), (I.mk (some 2) none false (X.v (A.mov (O.t 5))))] []) AC.ret) AC.skip) A52_2)
def A52 : AC := (AC.seq (AC.reg [] [(I.mk (some 2) none false (X.v (A.mov (O.k (V.int IntKind.i64 (Int.ofNat 0))))))] []) A52_1)
def an52 : List An := []
theorem c52 : cC Try.prog Try.f52.ntmps an52 (Try.f52.body.getD .skip) = some A52 := by kernel_rfl
structure H52 (D : Den) (σ : Sig) (F : Nat) : Prop where
  c103 : ∀ x0 r, bits_OnesCount64 F x0 = some r → D 103 [Enc.enc x0] = some (Enc.enc (r : Int))
  g103 : σ 103 = some (0, false)
abbrev R52 (r : Int) : (Nat → V) → Prop := RR Try.prog [.tmp 2] 0 false (Enc.enc (r : Int))
section
variable {D : Den} {σ : Sig} {F : Nat} {r : Int}
def bits_OnesCount (F : Nat) (x_1 : (Kd .u64)) : Option Int :=
  (bits_OnesCount64 F (Kd.mk x_1.v : Kd .u64)).bind fun r_2 =>
  some r_2
theorem t52 (H : H52 D σ F) (x_1 : (Kd .u64)) (s : Nat → V) (hs : Facts [(0, (.int .u64 x_1.v))] s) (h : bits_OnesCount F x_1 = some r) : Run D σ (R52 r) (.run A52 []) s := by
  unfold bits_OnesCount at h
  have h0 := hs
  refine .seq ?_
  refine run_reg ?_
  refine e_end ?_
  refine g_v0 (.int .i64 0) rfl rfl ?_
  refine g_end ?_
  refine e_end ?_
  refine renew [(0, (.int .u64 x_1.v)), (2, (.int .i64 0))] ⟨h0, rfl⟩ ?_
  rintro s ⟨h0, h2⟩
  refine .nsq ?_
  refine .seq ?_
  refine run_condF rfl ?_
  refine .skip ?_
  refine .nsq ?_
  refine .seq ?_
  refine run_reg ?_
  refine e_end ?_
  refine g_v1 (t := 0) (u := (.int .u64 x_1.v)) (.int .u64 x_1.v) h0 rfl rfl ?_
  obtain ⟨r_2, E_r_2, h⟩ := bind_some h
  refine g_call (m := 0) (al := false) (r := (Enc.enc (r_2 : Int))) [Enc.enc ((Kd.mk x_1.v : Kd .u64) : (Kd .u64))] (ta_cons (v := (.int .u64 x_1.v)) rfl rfl rfl ta_nil) (H.c103 _ _ E_r_2) H.g103 rfl rfl rfl rfl ?_
  refine g_v1 (t := 7) (u := (.int .i64 r_2)) (.int .i64 r_2) rfl rfl rfl ?_
  refine g_end ?_
  refine e_end ?_
  refine renew [(2, (.int .i64 r_2))] rfl ?_
  rintro s h2
  refine .nsq ?_
  refine .ret ?_
  have hr := Option.some.inj h
  subst hr
  exact rrA (res_tmp h2) rfl
end
def e52 (F : Nat) : Ent := ⟨52, dn1 (bits_OnesCount F) (fun (r : Int) => (Enc.enc (r : Int))), 0, false⟩
theorem o52 {D : Den} {σ : Sig} {F : Nat} (hF : Fits2 Try.prog D σ) (H : H52 D σ F) : (e52 F).Ok Try.prog := by
  refine ⟨fun args r h => ?_, ⟨Try.f52, Try.func52, rfl, rfl⟩⟩
  obtain ⟨x0, y, rfl, hy, rfl⟩ := dn1_open h
  exact contract_run hF (by kernel_rfl) Try.func52 rfl c52 (show 1 ≤ Try.f52.ntmps by decide) (t52 H x0 _ rfl hy)
/- loop.example/g01109/impl.ForestDepth -/
def A19_4 : AC := (AC.reg [] [(I.mk (some 28) none false (X.v (A.mov (O.t 8)))), (I.mk (some 29) none false (X.v (A.mov (O.t 10)))), (I.mk (some 30) none false (X.v (A.conv IntKind.u64 (O.t 29)))), (I.mk (some 31) none false (X.call (O.k (V.fn 52 [] [])) [(O.t 30)])), (I.mk (some 32) none false (X.v (A.bin BinOp.add (O.t 31) (O.k (V.int IntKind.i64 (Int.ofNat 1)))))), (I.mk (some 33) none false (X.v (A.mx [(O.t 28), (O.t 32)]))), (I.mk (some 8) none false (X.v (A.mov (O.t 33))))] [])
def A19_5 : AC := (AC.reg [] [(I.mk (some 34) none false (X.v (A.bin BinOp.add (O.t 24) (O.k (V.int IntKind.i64 (Int.ofNat 1)))))), (I.mk (some 24) none false (X.v (A.mov (O.t 34))))] [])
def A19_3 : AC := (AC.seq (AC.block 1 (AC.seq (AC.reg [] [(I.mk (some 26) none false (X.v (A.idx (O.t 22) (O.t 24) 1))), (I.mk (some 27) none false (X.v (A.load Sh.s (O.t 26)))), (I.mk (some 10) none false (X.v (A.mov (O.t 27))))] []) A19_4)) A19_5)
def A19_2 : AC := (AC.seq (AC.cond (O.t 25) AC.skip (AC.exit 0)) A19_3)
def A19_1 : AC := (AC.seq (AC.reg [] [(I.mk (some 25) none false (X.v (A.bin BinOp.lss (O.t 24) (O.t 23))))] []) A19_2)
def A19_6 : AC := (AC.seq (AC.reg [] [(I.mk (some 35) none false (X.v (A.mov (O.t 8)))), (I.mk (some 4) none false (X.v (A.mov (O.t 35)))), (I.mk (some 5) none false (X.v (A.mov (O.k (V.bool true)))))] []) AC.ret)
def A19_8 : AC := (AC.cond (O.t 13) (AC.seq (AC.reg [] [(I.mk (some 4) none false (X.v (A.mov (O.k (V.int IntKind.i64 (Int.ofNat 0)))))), (I.mk (some 5) none false (X.v (A.mov (O.k (V.bool false)))))] []) AC.ret) AC.skip)
def A19_11 : AC := (AC.cond (O.t 21) (AC.seq (AC.reg [] [(I.mk (some 4) none false (X.v (A.mov (O.k (V.int IntKind.i64 (Int.ofNat 0)))))), (I.mk (some 5) none false (X.v (A.mov (O.k (V.bool false)))))] []) AC.ret) AC.skip)
def A19_14 : AC := (AC.block 0 (AC.loop A19_1))
def A19_13 : AC := (AC.seq (AC.seq (AC.reg [] [(I.mk (some 22) none false (X.v (A.mov (O.t 6)))), (I.mk (some 23) none false (X.v (A.len (O.t 22)))), (I.mk (some 24) none false (X.v (A.mov (O.k (V.int IntKind.i64 (Int.ofNat 0))))))] []) A19_14) A19_6)
def A19_12 : AC := (AC.seq (AC.reg [] [(I.mk (some 8) none false (X.v (A.mov (O.k (V.int IntKind.i64 (Int.ofNat 0))))))] []) A19_13)
def A19_10 : AC := (AC.seq (AC.seq (AC.reg [] [(I.mk (some 20) none false (X.v (A.mov (O.t 7)))), (I.mk (some 21) none false (X.v (A.un UnOp.not (O.t 20))))] []) A19_11) A19_12)
def A19_9 : AC := (AC.seq (AC.reg [] [(I.mk (some 15) none false (X.v (A.load (Sh.ag [Sh.s, Sh.p]) (O.t 2)))), (I.mk (some 16) none false (X.v (A.mov (O.t 1)))), (I.mk (some 17) none false (X.call (O.k (V.fn 51 [] [])) [(O.t 15), (O.t 16)])), (I.mk (some 14) none false (X.v (A.mov (O.t 17)))), (I.mk (some 18) none false (X.v (A.ext (O.t 14) 0))), (I.mk (some 19) none false (X.v (A.ext (O.t 14) 1))), (I.mk (some 6) none false (X.v (A.mov (O.t 18)))), (I.mk (some 7) none false (X.v (A.mov (O.t 19))))] []) A19_10)
def A19_7 : AC := (AC.seq (AC.seq (AC.reg [] [(I.mk (some 11) none false (X.v (A.load (Sh.ag [Sh.s, Sh.p]) (O.t 2)))), (I.mk (some 12) none false (X.call (O.k (V.fn 50 [] [])) [(O.t 11)])), (I.mk (some 13) none false (X.v (A.un UnOp.not (O.t 12))))] []) A19_8) A19_9)
def A19 : AC := (AC.seq (AC.reg [.clr [2]] [(I.mk (some 2) none false (X.box (O.t 0))), (I.mk (some 4) none false (X.v (A.mov (O.k (V.int IntKind.i64 (Int.ofNat 0)))))), (I.mk (some 5) none false (X.v (A.mov (O.k (V.bool false)))))] []) A19_7)
def an19 : List An := [{ id := 0, pre := [.clr [2]], ep := [] }]
theorem c19 : cC Try.prog Try.f19.ntmps an19 (Try.f19.body.getD .skip) = some A19 := by kernel_rfl
structure H19 (D : Den) (σ : Sig) (F : Nat) : Prop where
  c50 : ∀ x0 r, i_IsGraph F x0 = some r → D 50 [Enc.enc x0] = some (Enc.enc (r : Bool))
  g50 : σ 50 = some (0, false)
  c51 : ∀ x0 x1 r, i_forestLists F x0 x1 = some r → D 51 [Enc.enc x0, Enc.enc x1] = some (.tup [Enc.enc (r.1 : (List Int)), Enc.enc (r.2 : Bool)])
  g51 : σ 51 = some (0, true)
  c52 : ∀ x0 r, bits_OnesCount F x0 = some r → D 52 [Enc.enc x0] = some (Enc.enc (r : Int))
  g52 : σ 52 = some (0, false)
abbrev R19 (r : (Int × Bool)) : (Nat → V) → Prop := RR Try.prog [.tmp 4, .tmp 5] 0 false (.tup [Enc.enc (r.1 : Int), Enc.enc (r.2 : Bool)])
section
variable {D : Den} {σ : Sig} {F : Nat} {r : (Int × Bool)}
def i_ForestDepth_l1 (F : Nat) (r_4 : ((List Int) × Bool))  : Nat → Int → Int → Option (Int × Bool)
  | 0, _, _ => none
  | k + 1, depth_7, t24_8 =>
    bif decide (t24_8 < (r_4.1.length : Int)) then
      (idx r_4.1 t24_8).bind fun e_11 =>
      (bits_OnesCount F (Kd.mk (IntKind.u64.wrap e_11) : Kd .u64)).bind fun r_12 =>
      (i_ForestDepth_l1 F r_4 k) (if (w64 (r_12 + 1)) > depth_7 then (w64 (r_12 + 1)) else depth_7) (w64 (t24_8 + 1))
    else
      some (depth_7, true)
theorem t_f19_l1 (H : H19 D σ F) (r_4 : ((List Int) × Bool))  : ∀ (k : Nat) (depth_7 : Int) (t24_8 : Int) (s : Nat → V), Facts [(4, (.int .i64 0)), (5, (.bool false)), (8, (.int .i64 depth_7)), (22, (Enc.enc (r_4.1 : List Int))), (23, (.int .i64 (r_4.1.length : Int))), (24, (.int .i64 t24_8))] s → i_ForestDepth_l1 F r_4 k depth_7 t24_8 = some r → Run D σ (R19 r) (.run A19_1 [.lp A19_1, .bk 0, .sq A19_6]) s := by
  intro k
  induction k with
  | zero => intro depth_7 t24_8 s _ h; exact nomatch (h : (none : Option _) = some r)
  | succ k ih =>
    intro depth_7 t24_8 s hs h
    rw [i_ForestDepth_l1] at h
    obtain ⟨h4, h5, h8, h22, h23, h24⟩ := hs
    refine .seq ?_
    refine run_reg ?_
    refine e_end ?_
    refine g_v2 (t1 := 24) (t2 := 23) (u1 := (.int .i64 t24_8)) (u2 := (.int .i64 (r_4.1.length : Int))) (.bool (decide (t24_8 < (r_4.1.length : Int)))) h24 h23 rfl rfl ?_
    refine g_end ?_
    refine e_end ?_
    refine renew [(4, (.int .i64 0)), (5, (.bool false)), (8, (.int .i64 depth_7)), (22, (Enc.enc (r_4.1 : List Int))), (23, (.int .i64 (r_4.1.length : Int))), (24, (.int .i64 t24_8)), (25, (.bool (decide (t24_8 < (r_4.1.length : Int)))))] ⟨h4, h5, h8, h22, h23, h24, rfl⟩ ?_
    rintro s ⟨h4, h5, h8, h22, h23, h24, h25⟩
    refine .nsq ?_
    refine .seq ?_
    refine run_cond (t := decide (t24_8 < (r_4.1.length : Int))) h25 h (fun h => ?_) (fun h => ?_)
    · refine .skip ?_
      refine .nsq ?_
      refine .seq ?_
      refine .block ?_
      refine .seq ?_
      refine run_reg ?_
      refine e_end ?_
      obtain ⟨e_11, E_e_11, h⟩ := bind_some h
      refine g_v (.ref .sh 0 [] (.int .i64 e_11)) (ev_idx (t := .sh) (lo := 0) (xs := r_4.1) h22 h24 E_e_11 rfl rfl) ?_
      refine g_v1 (t := 26) (u := (.ref .sh 0 [] (.int .i64 e_11))) (.int .i64 e_11) rfl rfl rfl ?_
      refine g_v1 (t := 27) (u := (.int .i64 e_11)) (.int .i64 e_11) rfl rfl rfl ?_
      refine g_end ?_
      refine e_end ?_
      refine renew [(4, (.int .i64 0)), (5, (.bool false)), (8, (.int .i64 depth_7)), (10, (.int .i64 e_11)), (22, (Enc.enc (r_4.1 : List Int))), (23, (.int .i64 (r_4.1.length : Int))), (24, (.int .i64 t24_8))] ⟨h4, h5, h8, rfl, h22, h23, h24⟩ ?_
      rintro s ⟨h4, h5, h8, h10, h22, h23, h24⟩
      refine .nsq ?_
      refine run_reg ?_
      refine e_end ?_
      refine g_v1 (t := 8) (u := (.int .i64 depth_7)) (.int .i64 depth_7) h8 rfl rfl ?_
      refine g_v1 (t := 10) (u := (.int .i64 e_11)) (.int .i64 e_11) h10 rfl rfl ?_
      refine g_v1 (t := 29) (u := (.int .i64 e_11)) (.int .u64 (IntKind.u64.wrap e_11)) rfl rfl rfl ?_
      obtain ⟨r_12, E_r_12, h⟩ := bind_some h
      refine g_call (m := 0) (al := false) (r := (Enc.enc (r_12 : Int))) [Enc.enc ((Kd.mk (IntKind.u64.wrap e_11) : Kd .u64) : (Kd .u64))] (ta_cons (v := (.int .u64 (IntKind.u64.wrap e_11))) rfl rfl rfl ta_nil) (H.c52 _ _ E_r_12) H.g52 rfl rfl rfl rfl ?_
      refine g_v1 (t := 31) (u := (.int .i64 r_12)) (.int .i64 (w64 (r_12 + 1))) rfl rfl rfl ?_
      refine g_v2 (t1 := 28) (t2 := 32) (u1 := (.int .i64 depth_7)) (u2 := (.int .i64 (w64 (r_12 + 1)))) (.int .i64 (if (w64 (r_12 + 1)) > depth_7 then (w64 (r_12 + 1)) else depth_7)) rfl rfl rfl rfl ?_
      refine g_v1 (t := 33) (u := (.int .i64 (if (w64 (r_12 + 1)) > depth_7 then (w64 (r_12 + 1)) else depth_7))) (.int .i64 (if (w64 (r_12 + 1)) > depth_7 then (w64 (r_12 + 1)) else depth_7)) rfl rfl rfl ?_
      refine g_end ?_
      refine e_end ?_
      refine renew [(4, (.int .i64 0)), (5, (.bool false)), (8, (.int .i64 (if (w64 (r_12 + 1)) > depth_7 then (w64 (r_12 + 1)) else depth_7))), (22, (Enc.enc (r_4.1 : List Int))), (23, (.int .i64 (r_4.1.length : Int))), (24, (.int .i64 t24_8))] ⟨h4, h5, rfl, h22, h23, h24⟩ ?_
      rintro s ⟨h4, h5, h8, h22, h23, h24⟩
      refine .nbk ?_
      refine .nsq ?_
      refine run_reg ?_
      refine e_end ?_
      refine g_v1 (t := 24) (u := (.int .i64 t24_8)) (.int .i64 (w64 (t24_8 + 1))) h24 rfl rfl ?_
      refine g_v1 (t := 34) (u := (.int .i64 (w64 (t24_8 + 1)))) (.int .i64 (w64 (t24_8 + 1))) rfl rfl rfl ?_
      refine g_end ?_
      refine e_end ?_
      refine renew [(4, (.int .i64 0)), (5, (.bool false)), (8, (.int .i64 (if (w64 (r_12 + 1)) > depth_7 then (w64 (r_12 + 1)) else depth_7))), (22, (Enc.enc (r_4.1 : List Int))), (23, (.int .i64 (r_4.1.length : Int))), (24, (.int .i64 (w64 (t24_8 + 1))))] ⟨h4, h5, h8, h22, h23, rfl⟩ ?_
      rintro s ⟨h4, h5, h8, h22, h23, h24⟩
      refine .nlp ?_
      exact ih (if (w64 (r_12 + 1)) > depth_7 then (w64 (r_12 + 1)) else depth_7) (w64 (t24_8 + 1)) _ ⟨h4, h5, h8, h22, h23, h24⟩ h
    · refine .exit ?_
      refine .esq ?_
      refine .elp ?_
      refine .ebk ?_
      refine .nsq ?_
      refine .seq ?_
      refine run_reg ?_
      refine e_end ?_
      refine g_v1 (t := 8) (u := (.int .i64 depth_7)) (.int .i64 depth_7) h8 rfl rfl ?_
      refine g_v1 (t := 35) (u := (.int .i64 depth_7)) (.int .i64 depth_7) rfl rfl rfl ?_
      refine g_v0 (.bool true) rfl rfl ?_
      refine g_end ?_
      refine e_end ?_
      refine renew [(4, (.int .i64 depth_7)), (5, (.bool true))] ⟨rfl, rfl⟩ ?_
      rintro s ⟨h4, h5⟩
      refine .nsq ?_
      refine .ret ?_
      have hr := Option.some.inj h
      subst hr
      exact rrB (res_tmp h4) (res_tmp h5) rfl
def i_ForestDepth (F : Nat) (g_1 : (Int × (List (Int × Int)))) (parents_2 : (List Int)) : Option (Int × Bool) :=
  (i_IsGraph F g_1).bind fun r_3 =>
  bif (!r_3) then
    some (0, false)
  else
    (i_forestLists F g_1 parents_2).bind fun r_4 =>
    bif (!r_4.2) then
      some (0, false)
    else
      i_ForestDepth_l1 F r_4 F 0 0
theorem t19 (H : H19 D σ F) (g_1 : (Int × (List (Int × Int)))) (parents_2 : (List Int)) (s : Nat → V) (hs : Facts [(0, (.agg [(.int .i64 g_1.1), (Enc.enc (g_1.2 : List (Int × Int)))])), (1, (Enc.enc (parents_2 : List Int)))] s) (h : i_ForestDepth F g_1 parents_2 = some r) : Run D σ (R19 r) (.run A19 []) s := by
  unfold i_ForestDepth at h
  obtain ⟨h0, h1⟩ := hs
  refine .seq ?_
  refine run_reg ?_
  refine e_clr ?_
  refine e_end ?_
  refine g_box (.agg [(.int .i64 g_1.1), (Enc.enc (g_1.2 : List (Int × Int)))]) (rd_of (keep_clear (s := s) (pk := [2]) h0 rfl (map_agg (maps_cons rfl (maps_cons (Enc.map_enc _ (g_1.2 : List (Int × Int))) maps_nil)))) rfl) (gone_clear (s := s) (pk := [2]) (t := 2) rfl) rfl ?_
  refine g_v0 (.int .i64 0) rfl rfl ?_
  refine g_v0 (.bool false) rfl rfl ?_
  refine g_end ?_
  refine e_end ?_
  refine renew [(1, (Enc.enc (parents_2 : List Int))), (2, (.ref (.bx 2) 0 [] (.agg [(.int .i64 g_1.1), (Enc.enc (g_1.2 : List (Int × Int)))]))), (4, (.int .i64 0)), (5, (.bool false))] ⟨(keep_clear (s := s) (pk := [2]) h1 rfl (Enc.map_enc _ (parents_2 : List Int))), rfl, rfl, rfl⟩ ?_
  rintro s ⟨h1, h2, h4, h5⟩
  refine .nsq ?_
  refine .seq ?_
  refine .seq ?_
  refine run_reg ?_
  refine e_end ?_
  refine g_v1 (t := 2) (u := (.ref (.bx 2) 0 [] (.agg [(.int .i64 g_1.1), (Enc.enc (g_1.2 : List (Int × Int)))]))) (.agg [(.int .i64 g_1.1), (Enc.enc (g_1.2 : List (Int × Int)))]) h2 rfl rfl ?_
  obtain ⟨r_3, E_r_3, h⟩ := bind_some h
  refine g_call (m := 0) (al := false) (r := (Enc.enc (r_3 : Bool))) [Enc.enc (g_1 : (Int × (List (Int × Int))))] (ta_cons (v := (.agg [(.int .i64 g_1.1), (Enc.enc (g_1.2 : List (Int × Int)))])) rfl rfl (Enc.erase_enc (g_1 : (Int × (List (Int × Int))))) ta_nil) (H.c50 _ _ E_r_3) H.g50 rfl rfl rfl rfl ?_
  refine g_v1 (t := 12) (u := (.bool r_3)) (.bool (!r_3)) rfl rfl rfl ?_
  refine g_end ?_
  refine e_end ?_
  refine renew [(1, (Enc.enc (parents_2 : List Int))), (2, (.ref (.bx 2) 0 [] (.agg [(.int .i64 g_1.1), (Enc.enc (g_1.2 : List (Int × Int)))]))), (4, (.int .i64 0)), (5, (.bool false)), (13, (.bool (!r_3)))] ⟨h1, h2, h4, h5, rfl⟩ ?_
  rintro s ⟨h1, h2, h4, h5, h13⟩
  refine .nsq ?_
  refine run_cond (t := (!r_3)) h13 h (fun h => ?_) (fun h => ?_)
  · refine .seq ?_
    refine run_reg ?_
    refine e_end ?_
    refine g_v0 (.int .i64 0) rfl rfl ?_
    refine g_v0 (.bool false) rfl rfl ?_
    refine g_end ?_
    refine e_end ?_
    refine renew [(1, (Enc.enc (parents_2 : List Int))), (2, (.ref (.bx 2) 0 [] (.agg [(.int .i64 g_1.1), (Enc.enc (g_1.2 : List (Int × Int)))]))), (4, (.int .i64 0)), (5, (.bool false))] ⟨h1, h2, rfl, rfl⟩ ?_
    rintro s ⟨h1, h2, h4, h5⟩
    refine .nsq ?_
    refine .ret ?_
    have hr := Option.some.inj h
    subst hr
    exact rrB (res_tmp h4) (res_tmp h5) rfl
  · refine .skip ?_
    refine .nsq ?_
    refine .seq ?_
    refine run_reg ?_
    refine e_end ?_
    refine g_v1 (t := 2) (u := (.ref (.bx 2) 0 [] (.agg [(.int .i64 g_1.1), (Enc.enc (g_1.2 : List (Int × Int)))]))) (.agg [(.int .i64 g_1.1), (Enc.enc (g_1.2 : List (Int × Int)))]) h2 rfl rfl ?_
    refine g_v1 (t := 1) (u := (Enc.enc (parents_2 : List Int))) (Enc.enc (parents_2 : List Int)) h1 rfl rfl ?_
    obtain ⟨r_4, E_r_4, h⟩ := bind_some h
    refine g_call (m := 0) (al := true) (r := (.tup [Enc.enc (r_4.1 : (List Int)), Enc.enc (r_4.2 : Bool)])) [Enc.enc (g_1 : (Int × (List (Int × Int)))), Enc.enc (parents_2 : (List Int))] (ta_cons (v := (.agg [(.int .i64 g_1.1), (Enc.enc (g_1.2 : List (Int × Int)))])) rfl rfl (Enc.erase_enc (g_1 : (Int × (List (Int × Int))))) (ta_cons (v := (Enc.enc (parents_2 : List Int))) rfl rfl (Enc.erase_enc (parents_2 : (List Int))) ta_nil)) (H.c51 _ _ _ E_r_4) H.g51 (hal_of (ht_cons (v := (.agg [(.int .i64 g_1.1), (Enc.enc (g_1.2 : List (Int × Int)))])) rfl rfl rfl (ht_cons (v := (Enc.enc (parents_2 : List Int))) rfl rfl rfl ht_nil))) rfl rfl rfl ?_
    refine g_v1 (t := 17) (u := (.tup [(Enc.enc (r_4.1 : List Int)), (.bool r_4.2)])) (.tup [(Enc.enc (r_4.1 : List Int)), (.bool r_4.2)]) rfl rfl rfl ?_
    refine g_v1 (t := 14) (u := (.tup [(Enc.enc (r_4.1 : List Int)), (.bool r_4.2)])) (Enc.enc (r_4.1 : List Int)) rfl rfl rfl ?_
    refine g_v1 (t := 14) (u := (.tup [(Enc.enc (r_4.1 : List Int)), (.bool r_4.2)])) (.bool r_4.2) rfl rfl rfl ?_
    refine g_v1 (t := 18) (u := (Enc.enc (r_4.1 : List Int))) (Enc.enc (r_4.1 : List Int)) rfl rfl rfl ?_
    refine g_v1 (t := 19) (u := (.bool r_4.2)) (.bool r_4.2) rfl rfl rfl ?_
    refine g_end ?_
    refine e_end ?_
    refine renew [(4, (.int .i64 0)), (5, (.bool false)), (6, (Enc.enc (r_4.1 : List Int))), (7, (.bool r_4.2))] ⟨h4, h5, rfl, rfl⟩ ?_
    rintro s ⟨h4, h5, h6, h7⟩
    refine .nsq ?_
    refine .seq ?_
    refine .seq ?_
    refine run_reg ?_
    refine e_end ?_
    refine g_v1 (t := 7) (u := (.bool r_4.2)) (.bool r_4.2) h7 rfl rfl ?_
    refine g_v1 (t := 20) (u := (.bool r_4.2)) (.bool (!r_4.2)) rfl rfl rfl ?_
    refine g_end ?_
    refine e_end ?_
    refine renew [(4, (.int .i64 0)), (5, (.bool false)), (6, (Enc.enc (r_4.1 : List Int))), (21, (.bool (!r_4.2)))] ⟨h4, h5, h6, rfl⟩ ?_
    rintro s ⟨h4, h5, h6, h21⟩
    refine .nsq ?_
    refine run_cond (t := (!r_4.2)) h21 h (fun h => ?_) (fun h => ?_)
    · refine .seq ?_
      refine run_reg ?_
      refine e_end ?_
      refine g_v0 (.int .i64 0) rfl rfl ?_
      refine g_v0 (.bool false) rfl rfl ?_
      refine g_end ?_
      refine e_end ?_
      refine renew [(4, (.int .i64 0)), (5, (.bool false)), (6, (Enc.enc (r_4.1 : List Int)))] ⟨rfl, rfl, h6⟩ ?_
      rintro s ⟨h4, h5, h6⟩
      refine .nsq ?_
      refine .ret ?_
      have hr := Option.some.inj h
      subst hr
      exact rrB (res_tmp h4) (res_tmp h5) rfl
    · refine .skip ?_
      refine .nsq ?_
      refine .seq ?_
      refine run_reg ?_
      refine e_end ?_
      refine g_v0 (.int .i64 0) rfl rfl ?_
      refine g_end ?_
      refine e_end ?_
      refine renew [(4, (.int .i64 0)), (5, (.bool false)), (6, (Enc.enc (r_4.1 : List Int))), (8, (.int .i64 0))] ⟨h4, h5, h6, rfl⟩ ?_
      rintro s ⟨h4, h5, h6, h8⟩
      refine .nsq ?_
      refine .seq ?_
      refine .seq ?_
      refine run_reg ?_
      refine e_end ?_
      refine g_v1 (t := 6) (u := (Enc.enc (r_4.1 : List Int))) (Enc.enc (r_4.1 : List Int)) h6 rfl rfl ?_
      refine g_v (.int .i64 (r_4.1.length : Int)) (ev_len (xs := r_4.1) rfl) ?_
      refine g_v0 (.int .i64 0) rfl rfl ?_
      refine g_end ?_
      refine e_end ?_
      refine renew [(4, (.int .i64 0)), (5, (.bool false)), (8, (.int .i64 0)), (22, (Enc.enc (r_4.1 : List Int))), (23, (.int .i64 (r_4.1.length : Int))), (24, (.int .i64 0))] ⟨h4, h5, h8, rfl, rfl, rfl⟩ ?_
      rintro s ⟨h4, h5, h8, h22, h23, h24⟩
      refine .nsq ?_
      refine .block ?_
      refine .loop ?_
      exact t_f19_l1 H r_4 F 0 0 _ ⟨h4, h5, h8, h22, h23, h24⟩ h
end
def e19 (F : Nat) : Ent := ⟨19, dn2 (i_ForestDepth F) (fun (r : (Int × Bool)) => (.tup [Enc.enc (r.1 : Int), Enc.enc (r.2 : Bool)])), 0, false⟩
theorem o19 {D : Den} {σ : Sig} {F : Nat} (hF : Fits2 Try.prog D σ) (H : H19 D σ F) : (e19 F).Ok Try.prog := by
  refine ⟨fun args r h => ?_, ⟨Try.f19, Try.func19, rfl, rfl⟩⟩
  obtain ⟨x0, x1, y, rfl, hy, rfl⟩ := dn2_open h
  exact contract_run hF (by kernel_rfl) Try.func19 rfl c19 (show 2 ≤ Try.f19.ntmps by decide) (t19 H x0 x1 _ ⟨rfl, rfl⟩ hy)
/- loop.example/g01109/laws.eqIntA2 -/
def A104_2 : AC := (AC.cond (O.t 7) AC.skip (AC.exit 0))
def A104_4 : AC := (AC.cond (O.t 16) (AC.seq (AC.reg [] [(I.mk (some 4) none false (X.v (A.mov (O.k (V.bool false)))))] []) AC.ret) AC.skip)
def A104_5 : AC := (AC.reg [] [(I.mk (some 8) none false (X.v (A.mov (O.t 5)))), (I.mk (some 9) none false (X.v (A.bin BinOp.add (O.t 8) (O.k (V.int IntKind.i64 (Int.ofNat 1)))))), (I.mk (some 5) none false (X.v (A.mov (O.t 9))))] [])
def A104_3 : AC := (AC.seq (AC.block 1 (AC.seq (AC.reg [] [(I.mk (some 10) none false (X.v (A.mov (O.t 5)))), (I.mk (some 11) none false (X.v (A.idxA (O.t 2) (O.t 10) 2 1))), (I.mk (some 12) none false (X.v (A.load Sh.s (O.t 11)))), (I.mk (some 13) none false (X.v (A.mov (O.t 5)))), (I.mk (some 14) none false (X.v (A.idxA (O.t 3) (O.t 13) 2 1))), (I.mk (some 15) none false (X.v (A.load Sh.s (O.t 14)))), (I.mk (some 16) none false (X.v (A.bin BinOp.neq (O.t 12) (O.t 15))))] []) A104_4)) A104_5)
def A104_1 : AC := (AC.seq (AC.seq (AC.reg [] [(I.mk (some 6) none false (X.v (A.mov (O.t 5)))), (I.mk (some 7) none false (X.v (A.bin BinOp.lss (O.t 6) (O.k (V.int IntKind.i64 (Int.ofNat 2))))))] []) A104_2) A104_3)
def A104_6 : AC := (AC.seq (AC.reg [] [(I.mk (some 4) none false (X.v (A.mov (O.k (V.bool true)))))] []) AC.ret)
def A104_8 : AC := (AC.block 0 (AC.loop A104_1))
def A104_7 : AC := (AC.seq (AC.seq (AC.reg [] [(I.mk (some 5) none false (X.v (A.mov (O.k (V.int IntKind.i64 (Int.ofNat 0))))))] []) A104_8) A104_6)
def A104 : AC := (AC.seq (AC.reg [.clr [2, 3]] [(I.mk (some 2) none false (X.box (O.t 0))), (I.mk (some 3) none false (X.box (O.t 1))), (I.mk (some 4) none false (X.v (A.mov (O.k (V.bool false)))))] []) A104_7)
def an104 : List An := [{ id := 0, pre := [.clr [2, 3]], ep := [] }]
theorem c104 : cC Try.prog Try.f104.ntmps an104 (Try.f104.body.getD .skip) = some A104 := by kernel_rfl
structure H104 (D : Den) (σ : Sig) (F : Nat) : Prop where
  mk ::
abbrev R104 (r : Bool) : (Nat → V) → Prop := RR Try.prog [.tmp 4] 0 false (Enc.enc (r : Bool))
section
variable {D : Den} {σ : Sig} {F : Nat} {r : Bool}
def w_eqIntA2_l1 (F : Nat) (a_1 : (Int × Int)) (b_2 : (Int × Int))  : Nat → Int → Option Bool
  | 0, _ => none
  | k + 1, i_3 =>
    bif decide (i_3 < 2) then
      (idx [a_1.1, a_1.2] i_3).bind fun e_6 =>
      (idx [b_2.1, b_2.2] i_3).bind fun e_7 =>
      bif (e_6 != e_7) then
        some false
      else
        (w_eqIntA2_l1 F a_1 b_2 k) (w64 (i_3 + 1))
    else
      some true
theorem t_f104_l1 (H : H104 D σ F) (a_1 : (Int × Int)) (b_2 : (Int × Int))  : ∀ (k : Nat) (i_3 : Int) (s : Nat → V), Facts [(2, (.ref (.bx 2) 0 [] (.agg [(.int .i64 a_1.1), (.int .i64 a_1.2)]))), (3, (.ref (.bx 3) 0 [] (.agg [(.int .i64 b_2.1), (.int .i64 b_2.2)]))), (4, (.bool false)), (5, (.int .i64 i_3))] s → w_eqIntA2_l1 F a_1 b_2 k i_3 = some r → Run D σ (R104 r) (.run A104_1 [.lp A104_1, .bk 0, .sq A104_6]) s := by
  intro k
  induction k with
  | zero => intro i_3 s _ h; exact nomatch (h : (none : Option _) = some r)
  | succ k ih =>
    intro i_3 s hs h
    rw [w_eqIntA2_l1] at h
    obtain ⟨h2, h3, h4, h5⟩ := hs
    refine .seq ?_
    refine .seq ?_
    refine run_reg ?_
    refine e_end ?_
    refine g_v1 (t := 5) (u := (.int .i64 i_3)) (.int .i64 i_3) h5 rfl rfl ?_
    refine g_v1 (t := 6) (u := (.int .i64 i_3)) (.bool (decide (i_3 < 2))) rfl rfl rfl ?_
    refine g_end ?_
    refine e_end ?_
    refine renew [(2, (.ref (.bx 2) 0 [] (.agg [(.int .i64 a_1.1), (.int .i64 a_1.2)]))), (3, (.ref (.bx 3) 0 [] (.agg [(.int .i64 b_2.1), (.int .i64 b_2.2)]))), (4, (.bool false)), (5, (.int .i64 i_3)), (7, (.bool (decide (i_3 < 2))))] ⟨h2, h3, h4, h5, rfl⟩ ?_
    rintro s ⟨h2, h3, h4, h5, h7⟩
    refine .nsq ?_
    refine run_cond (t := decide (i_3 < 2)) h7 h (fun h => ?_) (fun h => ?_)
    · refine .skip ?_
      refine .nsq ?_
      refine .seq ?_
      refine .block ?_
      refine .seq ?_
      refine run_reg ?_
      refine e_end ?_
      refine g_v1 (t := 5) (u := (.int .i64 i_3)) (.int .i64 i_3) h5 rfl rfl ?_
      obtain ⟨e_6, E_e_6, h⟩ := bind_some h
      refine g_v (.ref (.bx 2) 0 [i_3.toNat] (.int .i64 e_6)) (ev_idxA (xs := [a_1.1, a_1.2]) (a := e_6) (n := i_3) (q := []) h2 rfl E_e_6 rfl rfl rfl) ?_
      refine g_v1 (t := 11) (u := (.ref (.bx 2) 0 [i_3.toNat] (.int .i64 e_6))) (.int .i64 e_6) rfl rfl rfl ?_
      refine g_v1 (t := 5) (u := (.int .i64 i_3)) (.int .i64 i_3) h5 rfl rfl ?_
      obtain ⟨e_7, E_e_7, h⟩ := bind_some h
      refine g_v (.ref (.bx 3) 0 [i_3.toNat] (.int .i64 e_7)) (ev_idxA (xs := [b_2.1, b_2.2]) (a := e_7) (n := i_3) (q := []) h3 rfl E_e_7 rfl rfl rfl) ?_
      refine g_v1 (t := 14) (u := (.ref (.bx 3) 0 [i_3.toNat] (.int .i64 e_7))) (.int .i64 e_7) rfl rfl rfl ?_
      refine g_v2 (t1 := 12) (t2 := 15) (u1 := (.int .i64 e_6)) (u2 := (.int .i64 e_7)) (.bool (e_6 != e_7)) rfl rfl rfl rfl ?_
      refine g_end ?_
      refine e_end ?_
      refine renew [(2, (.ref (.bx 2) 0 [] (.agg [(.int .i64 a_1.1), (.int .i64 a_1.2)]))), (3, (.ref (.bx 3) 0 [] (.agg [(.int .i64 b_2.1), (.int .i64 b_2.2)]))), (4, (.bool false)), (5, (.int .i64 i_3)), (16, (.bool (e_6 != e_7)))] ⟨h2, h3, h4, h5, rfl⟩ ?_
      rintro s ⟨h2, h3, h4, h5, h16⟩
      refine .nsq ?_
      refine run_cond (t := (e_6 != e_7)) h16 h (fun h => ?_) (fun h => ?_)
      · refine .seq ?_
        refine run_reg ?_
        refine e_end ?_
        refine g_v0 (.bool false) rfl rfl ?_
        refine g_end ?_
        refine e_end ?_
        refine renew [(2, (.ref (.bx 2) 0 [] (.agg [(.int .i64 a_1.1), (.int .i64 a_1.2)]))), (3, (.ref (.bx 3) 0 [] (.agg [(.int .i64 b_2.1), (.int .i64 b_2.2)]))), (4, (.bool false)), (5, (.int .i64 i_3))] ⟨h2, h3, rfl, h5⟩ ?_
        rintro s ⟨h2, h3, h4, h5⟩
        refine .nsq ?_
        refine .ret ?_
        have hr := Option.some.inj h
        subst hr
        exact rrA (res_tmp h4) rfl
      · refine .skip ?_
        refine .nbk ?_
        refine .nsq ?_
        refine run_reg ?_
        refine e_end ?_
        refine g_v1 (t := 5) (u := (.int .i64 i_3)) (.int .i64 i_3) h5 rfl rfl ?_
        refine g_v1 (t := 8) (u := (.int .i64 i_3)) (.int .i64 (w64 (i_3 + 1))) rfl rfl rfl ?_
        refine g_v1 (t := 9) (u := (.int .i64 (w64 (i_3 + 1)))) (.int .i64 (w64 (i_3 + 1))) rfl rfl rfl ?_
        refine g_end ?_
        refine e_end ?_
        refine renew [(2, (.ref (.bx 2) 0 [] (.agg [(.int .i64 a_1.1), (.int .i64 a_1.2)]))), (3, (.ref (.bx 3) 0 [] (.agg [(.int .i64 b_2.1), (.int .i64 b_2.2)]))), (4, (.bool false)), (5, (.int .i64 (w64 (i_3 + 1))))] ⟨h2, h3, h4, rfl⟩ ?_
        rintro s ⟨h2, h3, h4, h5⟩
        refine .nlp ?_
        exact ih (w64 (i_3 + 1)) _ ⟨h2, h3, h4, h5⟩ h
    · refine .exit ?_
      refine .esq ?_
      refine .elp ?_
      refine .ebk ?_
      refine .nsq ?_
      refine .seq ?_
      refine run_reg ?_
      refine e_end ?_
      refine g_v0 (.bool true) rfl rfl ?_
      refine g_end ?_
      refine e_end ?_
      refine renew [(4, (.bool true))] rfl ?_
      rintro s h4
      refine .nsq ?_
      refine .ret ?_
      have hr := Option.some.inj h
      subst hr
      exact rrA (res_tmp h4) rfl
def w_eqIntA2 (F : Nat) (a_1 : (Int × Int)) (b_2 : (Int × Int)) : Option Bool :=
  w_eqIntA2_l1 F a_1 b_2 F 0
theorem t104 (H : H104 D σ F) (a_1 : (Int × Int)) (b_2 : (Int × Int)) (s : Nat → V) (hs : Facts [(0, (.agg [(.int .i64 a_1.1), (.int .i64 a_1.2)])), (1, (.agg [(.int .i64 b_2.1), (.int .i64 b_2.2)]))] s) (h : w_eqIntA2 F a_1 b_2 = some r) : Run D σ (R104 r) (.run A104 []) s := by
  unfold w_eqIntA2 at h
  obtain ⟨h0, h1⟩ := hs
  refine .seq ?_
  refine run_reg ?_
  refine e_clr ?_
  refine e_end ?_
  refine g_box (.agg [(.int .i64 a_1.1), (.int .i64 a_1.2)]) (rd_of (keep_clear (s := s) (pk := [2, 3]) h0 rfl (map_agg (maps_cons rfl (maps_cons rfl maps_nil)))) rfl) (gone_clear (s := s) (pk := [2, 3]) (t := 2) rfl) rfl ?_
  refine g_box (.agg [(.int .i64 b_2.1), (.int .i64 b_2.2)]) (rd_of (keep_clear (s := s) (pk := [2, 3]) h1 rfl (map_agg (maps_cons rfl (maps_cons rfl maps_nil)))) rfl) (gone_clear (s := s) (pk := [2, 3]) (t := 3) rfl) rfl ?_
  refine g_v0 (.bool false) rfl rfl ?_
  refine g_end ?_
  refine e_end ?_
  refine renew [(2, (.ref (.bx 2) 0 [] (.agg [(.int .i64 a_1.1), (.int .i64 a_1.2)]))), (3, (.ref (.bx 3) 0 [] (.agg [(.int .i64 b_2.1), (.int .i64 b_2.2)]))), (4, (.bool false))] ⟨rfl, rfl, rfl⟩ ?_
  rintro s ⟨h2, h3, h4⟩
  refine .nsq ?_
  refine .seq ?_
  refine .seq ?_
  refine run_reg ?_
  refine e_end ?_
  refine g_v0 (.int .i64 0) rfl rfl ?_
  refine g_end ?_
  refine e_end ?_
  refine renew [(2, (.ref (.bx 2) 0 [] (.agg [(.int .i64 a_1.1), (.int .i64 a_1.2)]))), (3, (.ref (.bx 3) 0 [] (.agg [(.int .i64 b_2.1), (.int .i64 b_2.2)]))), (4, (.bool false)), (5, (.int .i64 0))] ⟨h2, h3, h4, rfl⟩ ?_
  rintro s ⟨h2, h3, h4, h5⟩
  refine .nsq ?_
  refine .block ?_
  refine .loop ?_
  exact t_f104_l1 H a_1 b_2 F 0 _ ⟨h2, h3, h4, h5⟩ h
end
def e104 (F : Nat) : Ent := ⟨104, dn2 (w_eqIntA2 F) (fun (r : Bool) => (Enc.enc (r : Bool))), 0, false⟩
theorem o104 {D : Den} {σ : Sig} {F : Nat} (hF : Fits2 Try.prog D σ) (H : H104 D σ F) : (e104 F).Ok Try.prog := by
  refine ⟨fun args r h => ?_, ⟨Try.f104, Try.func104, rfl, rfl⟩⟩
  obtain ⟨x0, x1, y, rfl, hy, rfl⟩ := dn2_open h
  exact contract_run hF (by kernel_rfl) Try.func104 rfl c104 (show 2 ≤ Try.f104.ntmps by decide) (t104 H x0 x1 _ ⟨rfl, rfl⟩ hy)
/- loop.example/g01109/laws.eqIntA2S -/
def A53_2 : AC := (AC.cond (O.t 14) AC.skip (AC.exit 0))
def A53_4 : AC := (AC.cond (O.t 26) (AC.seq (AC.reg [] [(I.mk (some 4) none false (X.v (A.mov (O.k (V.bool false)))))] []) AC.ret) AC.skip)
def A53_5 : AC := (AC.reg [] [(I.mk (some 15) none false (X.v (A.mov (O.t 5)))), (I.mk (some 16) none false (X.v (A.bin BinOp.add (O.t 15) (O.k (V.int IntKind.i64 (Int.ofNat 1)))))), (I.mk (some 5) none false (X.v (A.mov (O.t 16))))] [])
def A53_3 : AC := (AC.seq (AC.block 1 (AC.seq (AC.reg [] [(I.mk (some 17) none false (X.v (A.mov (O.t 0)))), (I.mk (some 18) none false (X.v (A.mov (O.t 5)))), (I.mk (some 19) none false (X.v (A.idx (O.t 17) (O.t 18) 2))), (I.mk (some 20) none false (X.v (A.load (Sh.ag [Sh.s, Sh.s]) (O.t 19)))), (I.mk (some 21) none false (X.v (A.mov (O.t 1)))), (I.mk (some 22) none false (X.v (A.mov (O.t 5)))), (I.mk (some 23) none false (X.v (A.idx (O.t 21) (O.t 22) 2))), (I.mk (some 24) none false (X.v (A.load (Sh.ag [Sh.s, Sh.s]) (O.t 23)))), (I.mk (some 25) none false (X.call (O.k (V.fn 104 [] [])) [(O.t 20), (O.t 24)])), (I.mk (some 26) none false (X.v (A.un UnOp.not (O.t 25))))] []) A53_4)) A53_5)
def A53_1 : AC := (AC.seq (AC.seq (AC.reg [] [(I.mk (some 11) none false (X.v (A.mov (O.t 5)))), (I.mk (some 12) none false (X.v (A.mov (O.t 0)))), (I.mk (some 13) none false (X.v (A.len (O.t 12)))), (I.mk (some 14) none false (X.v (A.bin BinOp.lss (O.t 11) (O.t 13))))] []) A53_2) A53_3)
def A53_6 : AC := (AC.seq (AC.reg [] [(I.mk (some 4) none false (X.v (A.mov (O.k (V.bool true)))))] []) AC.ret)
def A53_8 : AC := (AC.cond (O.t 10) (AC.seq (AC.reg [] [(I.mk (some 4) none false (X.v (A.mov (O.k (V.bool false)))))] []) AC.ret) AC.skip)
def A53_10 : AC := (AC.block 0 (AC.loop A53_1))
def A53_9 : AC := (AC.seq (AC.seq (AC.reg [] [(I.mk (some 5) none false (X.v (A.mov (O.k (V.int IntKind.i64 (Int.ofNat 0))))))] []) A53_10) A53_6)
def A53_7 : AC := (AC.seq (AC.seq (AC.reg [] [(I.mk (some 6) none false (X.v (A.mov (O.t 0)))), (I.mk (some 7) none false (X.v (A.len (O.t 6)))), (I.mk (some 8) none false (X.v (A.mov (O.t 1)))), (I.mk (some 9) none false (X.v (A.len (O.t 8)))), (I.mk (some 10) none false (X.v (A.bin BinOp.neq (O.t 7) (O.t 9))))] []) A53_8) A53_9)
def A53 : AC := (AC.seq (AC.reg [] [(I.mk (some 4) none false (X.v (A.mov (O.k (V.bool false)))))] []) A53_7)
def an53 : List An := []
theorem c53 : cC Try.prog Try.f53.ntmps an53 (Try.f53.body.getD .skip) = some A53 := by kernel_rfl
structure H53 (D : Den) (σ : Sig) (F : Nat) : Prop where
  c104 : ∀ x0 x1 r, w_eqIntA2 F x0 x1 = some r → D 104 [Enc.enc x0, Enc.enc x1] = some (Enc.enc (r : Bool))
  g104 : σ 104 = some (0, false)
abbrev R53 (r : Bool) : (Nat → V) → Prop := RR Try.prog [.tmp 4] 0 false (Enc.enc (r : Bool))
section
variable {D : Den} {σ : Sig} {F : Nat} {r : Bool}
def w_eqIntA2S_l1 (F : Nat) (a_1 : (List (Int × Int))) (b_2 : (List (Int × Int)))  : Nat → Int → Option Bool
  | 0, _ => none
  | k + 1, i_6 =>
    bif decide (i_6 < (a_1.length : Int)) then
      (idx a_1 i_6).bind fun e_10 =>
      (idx b_2 i_6).bind fun e_11 =>
      (w_eqIntA2 F e_10 e_11).bind fun r_12 =>
      bif (!r_12) then
        some false
      else
        (w_eqIntA2S_l1 F a_1 b_2 k) (w64 (i_6 + 1))
    else
      some true
theorem t_f53_l1 (H : H53 D σ F) (a_1 : (List (Int × Int))) (b_2 : (List (Int × Int)))  : ∀ (k : Nat) (i_6 : Int) (s : Nat → V), Facts [(0, (Enc.enc (a_1 : List (Int × Int)))), (1, (Enc.enc (b_2 : List (Int × Int)))), (4, (.bool false)), (5, (.int .i64 i_6))] s → w_eqIntA2S_l1 F a_1 b_2 k i_6 = some r → Run D σ (R53 r) (.run A53_1 [.lp A53_1, .bk 0, .sq A53_6]) s := by
  intro k
  induction k with
  | zero => intro i_6 s _ h; exact nomatch (h : (none : Option _) = some r)
  | succ k ih =>
    intro i_6 s hs h
    rw [w_eqIntA2S_l1] at h
    obtain ⟨h0, h1, h4, h5⟩ := hs
    refine .seq ?_
    refine .seq ?_
    refine run_reg ?_
    refine e_end ?_
    refine g_v1 (t := 5) (u := (.int .i64 i_6)) (.int .i64 i_6) h5 rfl rfl ?_
    refine g_v1 (t := 0) (u := (Enc.enc (a_1 : List (Int × Int)))) (Enc.enc (a_1 : List (Int × Int))) h0 rfl rfl ?_
    refine g_v (.int .i64 (a_1.length : Int)) (ev_len (xs := a_1) rfl) ?_
    refine g_v2 (t1 := 11) (t2 := 13) (u1 := (.int .i64 i_6)) (u2 := (.int .i64 (a_1.length : Int))) (.bool (decide (i_6 < (a_1.length : Int)))) rfl rfl rfl rfl ?_
    refine g_end ?_
    refine e_end ?_
    refine renew [(0, (Enc.enc (a_1 : List (Int × Int)))), (1, (Enc.enc (b_2 : List (Int × Int)))), (4, (.bool false)), (5, (.int .i64 i_6)), (14, (.bool (decide (i_6 < (a_1.length : Int)))))] ⟨h0, h1, h4, h5, rfl⟩ ?_
    rintro s ⟨h0, h1, h4, h5, h14⟩
    refine .nsq ?_
    refine run_cond (t := decide (i_6 < (a_1.length : Int))) h14 h (fun h => ?_) (fun h => ?_)
    · refine .skip ?_
      refine .nsq ?_
      refine .seq ?_
      refine .block ?_
      refine .seq ?_
      refine run_reg ?_
      refine e_end ?_
      refine g_v1 (t := 0) (u := (Enc.enc (a_1 : List (Int × Int)))) (Enc.enc (a_1 : List (Int × Int))) h0 rfl rfl ?_
      refine g_v1 (t := 5) (u := (.int .i64 i_6)) (.int .i64 i_6) h5 rfl rfl ?_
      obtain ⟨e_10, E_e_10, h⟩ := bind_some h
      refine g_v (.ref .sh 0 [] (.agg [(.int .i64 e_10.1), (.int .i64 e_10.2)])) (ev_idx (t := .sh) (lo := 0) (xs := a_1) rfl rfl E_e_10 rfl rfl) ?_
      refine g_v1 (t := 19) (u := (.ref .sh 0 [] (.agg [(.int .i64 e_10.1), (.int .i64 e_10.2)]))) (.agg [(.int .i64 e_10.1), (.int .i64 e_10.2)]) rfl rfl rfl ?_
      refine g_v1 (t := 1) (u := (Enc.enc (b_2 : List (Int × Int)))) (Enc.enc (b_2 : List (Int × Int))) h1 rfl rfl ?_
      refine g_v1 (t := 5) (u := (.int .i64 i_6)) (.int .i64 i_6) h5 rfl rfl ?_
      obtain ⟨e_11, E_e_11, h⟩ := bind_some h
      refine g_v (.ref .sh 0 [] (.agg [(.int .i64 e_11.1), (.int .i64 e_11.2)])) (ev_idx (t := .sh) (lo := 0) (xs := b_2) rfl rfl E_e_11 rfl rfl) ?_
      refine g_v1 (t := 23) (u := (.ref .sh 0 [] (.agg [(.int .i64 e_11.1), (.int .i64 e_11.2)]))) (.agg [(.int .i64 e_11.1), (.int .i64 e_11.2)]) rfl rfl rfl ?_
      obtain ⟨r_12, E_r_12, h⟩ := bind_some h
      refine g_call (m := 0) (al := false) (r := (Enc.enc (r_12 : Bool))) [Enc.enc (e_10 : (Int × Int)), Enc.enc (e_11 : (Int × Int))] (ta_cons (v := (.agg [(.int .i64 e_10.1), (.int .i64 e_10.2)])) rfl rfl (Enc.erase_enc (e_10 : (Int × Int))) (ta_cons (v := (.agg [(.int .i64 e_11.1), (.int .i64 e_11.2)])) rfl rfl (Enc.erase_enc (e_11 : (Int × Int))) ta_nil)) (H.c104 _ _ _ E_r_12) H.g104 rfl rfl rfl rfl ?_
      refine g_v1 (t := 25) (u := (.bool r_12)) (.bool (!r_12)) rfl rfl rfl ?_
      refine g_end ?_
      refine e_end ?_
      refine renew [(0, (Enc.enc (a_1 : List (Int × Int)))), (1, (Enc.enc (b_2 : List (Int × Int)))), (4, (.bool false)), (5, (.int .i64 i_6)), (26, (.bool (!r_12)))] ⟨h0, h1, h4, h5, rfl⟩ ?_
      rintro s ⟨h0, h1, h4, h5, h26⟩
      refine .nsq ?_
      refine run_cond (t := (!r_12)) h26 h (fun h => ?_) (fun h => ?_)
      · refine .seq ?_
        refine run_reg ?_
        refine e_end ?_
        refine g_v0 (.bool false) rfl rfl ?_
        refine g_end ?_
        refine e_end ?_
        refine renew [(0, (Enc.enc (a_1 : List (Int × Int)))), (1, (Enc.enc (b_2 : List (Int × Int)))), (4, (.bool false)), (5, (.int .i64 i_6))] ⟨h0, h1, rfl, h5⟩ ?_
        rintro s ⟨h0, h1, h4, h5⟩
        refine .nsq ?_
        refine .ret ?_
        have hr := Option.some.inj h
        subst hr
        exact rrA (res_tmp h4) rfl
      · refine .skip ?_
        refine .nbk ?_
        refine .nsq ?_
        refine run_reg ?_
        refine e_end ?_
        refine g_v1 (t := 5) (u := (.int .i64 i_6)) (.int .i64 i_6) h5 rfl rfl ?_
        refine g_v1 (t := 15) (u := (.int .i64 i_6)) (.int .i64 (w64 (i_6 + 1))) rfl rfl rfl ?_
        refine g_v1 (t := 16) (u := (.int .i64 (w64 (i_6 + 1)))) (.int .i64 (w64 (i_6 + 1))) rfl rfl rfl ?_
        refine g_end ?_
        refine e_end ?_
        refine renew [(0, (Enc.enc (a_1 : List (Int × Int)))), (1, (Enc.enc (b_2 : List (Int × Int)))), (4, (.bool false)), (5, (.int .i64 (w64 (i_6 + 1))))] ⟨h0, h1, h4, rfl⟩ ?_
        rintro s ⟨h0, h1, h4, h5⟩
        refine .nlp ?_
        exact ih (w64 (i_6 + 1)) _ ⟨h0, h1, h4, h5⟩ h
    · refine .exit ?_
      refine .esq ?_
      refine .elp ?_
      refine .ebk ?_
      refine .nsq ?_
      refine .seq ?_
      refine run_reg ?_
      refine e_end ?_
      refine g_v0 (.bool true) rfl rfl ?_
      refine g_end ?_
      refine e_end ?_
      refine renew [(4, (.bool true))] rfl ?_
      rintro s h4
      refine .nsq ?_
      refine .ret ?_
      have hr := Option.some.inj h
      subst hr
      exact rrA (res_tmp h4) rfl
def w_eqIntA2S (F : Nat) (a_1 : (List (Int × Int))) (b_2 : (List (Int × Int))) : Option Bool :=
  bif ((a_1.length : Int) != (b_2.length : Int)) then
    some false
  else
    w_eqIntA2S_l1 F a_1 b_2 F 0
theorem t53 (H : H53 D σ F) (a_1 : (List (Int × Int))) (b_2 : (List (Int × Int))) (s : Nat → V) (hs : Facts [(0, (Enc.enc (a_1 : List (Int × Int)))), (1, (Enc.enc (b_2 : List (Int × Int))))] s) (h : w_eqIntA2S F a_1 b_2 = some r) : Run D σ (R53 r) (.run A53 []) s := by
  unfold w_eqIntA2S at h
  obtain ⟨h0, h1⟩ := hs
  refine .seq ?_
  refine run_reg ?_
  refine e_end ?_
  refine g_v0 (.bool false) rfl rfl ?_
  refine g_end ?_
  refine e_end ?_
  refine renew [(0, (Enc.enc (a_1 : List (Int × Int)))), (1, (Enc.enc (b_2 : List (Int × Int)))), (4, (.bool false))] ⟨h0, h1, rfl⟩ ?_
  rintro s ⟨h0, h1, h4⟩
  refine .nsq ?_
  refine .seq ?_
  refine .seq ?_
  refine run_reg ?_
  refine e_end ?_
  refine g_v1 (t := 0) (u := (Enc.enc (a_1 : List (Int × Int)))) (Enc.enc (a_1 : List (Int × Int))) h0 rfl rfl ?_
  refine g_v (.int .i64 (a_1.length : Int)) (ev_len (xs := a_1) rfl) ?_
  refine g_v1 (t := 1) (u := (Enc.enc (b_2 : List (Int × Int)))) (Enc.enc (b_2 : List (Int × Int))) h1 rfl rfl ?_
  refine g_v (.int .i64 (b_2.length : Int)) (ev_len (xs := b_2) rfl) ?_
  refine g_v2 (t1 := 7) (t2 := 9) (u1 := (.int .i64 (a_1.length : Int))) (u2 := (.int .i64 (b_2.length : Int))) (.bool ((a_1.length : Int) != (b_2.length : Int))) rfl rfl rfl rfl ?_
  refine g_end ?_
  refine e_end ?_
  refine renew [(0, (Enc.enc (a_1 : List (Int × Int)))), (1, (Enc.enc (b_2 : List (Int × Int)))), (4, (.bool false)), (10, (.bool ((a_1.length : Int) != (b_2.length : Int))))] ⟨h0, h1, h4, rfl⟩ ?_
  rintro s ⟨h0, h1, h4, h10⟩
  refine .nsq ?_
  refine run_cond (t := ((a_1.length : Int) != (b_2.length : Int))) h10 h (fun h => ?_) (fun h => ?_)
  · refine .seq ?_
    refine run_reg ?_
    refine e_end ?_
    refine g_v0 (.bool false) rfl rfl ?_
    refine g_end ?_
    refine e_end ?_
    refine renew [(0, (Enc.enc (a_1 : List (Int × Int)))), (1, (Enc.enc (b_2 : List (Int × Int)))), (4, (.bool false))] ⟨h0, h1, rfl⟩ ?_
    rintro s ⟨h0, h1, h4⟩
    refine .nsq ?_
    refine .ret ?_
    have hr := Option.some.inj h
    subst hr
    exact rrA (res_tmp h4) rfl
  · refine .skip ?_
    refine .nsq ?_
    refine .seq ?_
    refine .seq ?_
    refine run_reg ?_
    refine e_end ?_
    refine g_v0 (.int .i64 0) rfl rfl ?_
    refine g_end ?_
    refine e_end ?_
    refine renew [(0, (Enc.enc (a_1 : List (Int × Int)))), (1, (Enc.enc (b_2 : List (Int × Int)))), (4, (.bool false)), (5, (.int .i64 0))] ⟨h0, h1, h4, rfl⟩ ?_
    rintro s ⟨h0, h1, h4, h5⟩
    refine .nsq ?_
    refine .block ?_
    refine .loop ?_
    exact t_f53_l1 H a_1 b_2 F 0 _ ⟨h0, h1, h4, h5⟩ h
end
def e53 (F : Nat) : Ent := ⟨53, dn2 (w_eqIntA2S F) (fun (r : Bool) => (Enc.enc (r : Bool))), 0, false⟩
theorem o53 {D : Den} {σ : Sig} {F : Nat} (hF : Fits2 Try.prog D σ) (H : H53 D σ F) : (e53 F).Ok Try.prog := by
  refine ⟨fun args r h => ?_, ⟨Try.f53, Try.func53, rfl, rfl⟩⟩
  obtain ⟨x0, x1, y, rfl, hy, rfl⟩ := dn2_open h
  exact contract_run hF (by kernel_rfl) Try.func53 rfl c53 (show 2 ≤ Try.f53.ntmps by decide) (t53 H x0 x1 _ ⟨rfl, rfl⟩ hy)
/- loop.example/g01109/laws.eqGraph -/
def A20_2 : AC := (AC.cond (O.t 9) (AC.seq (AC.reg [] [(I.mk (some 4) none false (X.v (A.mov (O.k (V.bool false)))))] []) AC.ret) AC.skip)
def A20_4 : AC := (AC.cond (O.t 15) (AC.seq (AC.reg [] [(I.mk (some 4) none false (X.v (A.mov (O.k (V.bool false)))))] []) AC.ret) AC.skip)
def A20_5 : AC := (AC.seq (AC.reg [] [(I.mk (some 4) none false (X.v (A.mov (O.k (V.bool true)))))] []) AC.ret)
def A20_3 : AC := (AC.seq (AC.seq (AC.reg [] [(I.mk (some 10) none false (X.v (A.fld (O.t 2) 1 1))), (I.mk (some 11) none false (X.v (A.load Sh.p (O.t 10)))), (I.mk (some 12) none false (X.v (A.fld (O.t 3) 1 1))), (I.mk (some 13) none false (X.v (A.load Sh.p (O.t 12)))), (I.mk (some 14) none false (X.call (O.k (V.fn 53 [] [])) [(O.t 11), (O.t 13)])), (I.mk (some 15) none false (X.v (A.un UnOp.not (O.t 14))))] []) A20_4) A20_5)
def A20_1 : AC := (AC.seq (AC.seq (AC.reg [] [(I.mk (some 5) none false (X.v (A.fld (O.t 2) 0 0))), (I.mk (some 6) none false (X.v (A.load Sh.s (O.t 5)))), (I.mk (some 7) none false (X.v (A.fld (O.t 3) 0 0))), (I.mk (some 8) none false (X.v (A.load Sh.s (O.t 7)))), (I.mk (some 9) none false (X.v (A.bin BinOp.neq (O.t 6) (O.t 8))))] []) A20_2) A20_3)
def A20 : AC := (AC.seq (AC.reg [.clr [2, 3]] [(I.mk (some 2) none false (X.box (O.t 0))), (I.mk (some 3) none false (X.box (O.t 1))), (I.mk (some 4) none false (X.v (A.mov (O.k (V.bool false)))))] []) A20_1)
def an20 : List An := [{ id := 0, pre := [.clr [2, 3]], ep := [] }]
theorem c20 : cC Try.prog Try.f20.ntmps an20 (Try.f20.body.getD .skip) = some A20 := by kernel_rfl
structure H20 (D : Den) (σ : Sig) (F : Nat) : Prop where
  c53 : ∀ x0 x1 r, w_eqIntA2S F x0 x1 = some r → D 53 [Enc.enc x0, Enc.enc x1] = some (Enc.enc (r : Bool))
  g53 : σ 53 = some (0, false)
abbrev R20 (r : Bool) : (Nat → V) → Prop := RR Try.prog [.tmp 4] 0 false (Enc.enc (r : Bool))
section
variable {D : Den} {σ : Sig} {F : Nat} {r : Bool}
def w_eqGraph (F : Nat) (a_1 : (Int × (List (Int × Int)))) (b_2 : (Int × (List (Int × Int)))) : Option Bool :=
  bif (a_1.1 != b_2.1) then
    some false
  else
    (w_eqIntA2S F a_1.2 b_2.2).bind fun r_3 =>
    bif (!r_3) then
      some false
    else
      some true
theorem t20 (H : H20 D σ F) (a_1 : (Int × (List (Int × Int)))) (b_2 : (Int × (List (Int × Int)))) (s : Nat → V) (hs : Facts [(0, (.agg [(.int .i64 a_1.1), (Enc.enc (a_1.2 : List (Int × Int)))])), (1, (.agg [(.int .i64 b_2.1), (Enc.enc (b_2.2 : List (Int × Int)))]))] s) (h : w_eqGraph F a_1 b_2 = some r) : Run D σ (R20 r) (.run A20 []) s := by
  unfold w_eqGraph at h
  obtain ⟨h0, h1⟩ := hs
  refine .seq ?_
  refine run_reg ?_
  refine e_clr ?_
  refine e_end ?_
  refine g_box (.agg [(.int .i64 a_1.1), (Enc.enc (a_1.2 : List (Int × Int)))]) (rd_of (keep_clear (s := s) (pk := [2, 3]) h0 rfl (map_agg (maps_cons rfl (maps_cons (Enc.map_enc _ (a_1.2 : List (Int × Int))) maps_nil)))) rfl) (gone_clear (s := s) (pk := [2, 3]) (t := 2) rfl) rfl ?_
  refine g_box (.agg [(.int .i64 b_2.1), (Enc.enc (b_2.2 : List (Int × Int)))]) (rd_of (keep_clear (s := s) (pk := [2, 3]) h1 rfl (map_agg (maps_cons rfl (maps_cons (Enc.map_enc _ (b_2.2 : List (Int × Int))) maps_nil)))) rfl) (gone_clear (s := s) (pk := [2, 3]) (t := 3) rfl) rfl ?_
  refine g_v0 (.bool false) rfl rfl ?_
  refine g_end ?_
  refine e_end ?_
  refine renew [(2, (.ref (.bx 2) 0 [] (.agg [(.int .i64 a_1.1), (Enc.enc (a_1.2 : List (Int × Int)))]))), (3, (.ref (.bx 3) 0 [] (.agg [(.int .i64 b_2.1), (Enc.enc (b_2.2 : List (Int × Int)))]))), (4, (.bool false))] ⟨rfl, rfl, rfl⟩ ?_
  rintro s ⟨h2, h3, h4⟩
  refine .nsq ?_
  refine .seq ?_
  refine .seq ?_
  refine run_reg ?_
  refine e_end ?_
  refine g_v1 (t := 2) (u := (.ref (.bx 2) 0 [] (.agg [(.int .i64 a_1.1), (Enc.enc (a_1.2 : List (Int × Int)))]))) (.ref (.bx 2) 0 [0] (.int .i64 a_1.1)) h2 rfl rfl ?_
  refine g_v1 (t := 5) (u := (.ref (.bx 2) 0 [0] (.int .i64 a_1.1))) (.int .i64 a_1.1) rfl rfl rfl ?_
  refine g_v1 (t := 3) (u := (.ref (.bx 3) 0 [] (.agg [(.int .i64 b_2.1), (Enc.enc (b_2.2 : List (Int × Int)))]))) (.ref (.bx 3) 0 [0] (.int .i64 b_2.1)) h3 rfl rfl ?_
  refine g_v1 (t := 7) (u := (.ref (.bx 3) 0 [0] (.int .i64 b_2.1))) (.int .i64 b_2.1) rfl rfl rfl ?_
  refine g_v2 (t1 := 6) (t2 := 8) (u1 := (.int .i64 a_1.1)) (u2 := (.int .i64 b_2.1)) (.bool (a_1.1 != b_2.1)) rfl rfl rfl rfl ?_
  refine g_end ?_
  refine e_end ?_
  refine renew [(2, (.ref (.bx 2) 0 [] (.agg [(.int .i64 a_1.1), (Enc.enc (a_1.2 : List (Int × Int)))]))), (3, (.ref (.bx 3) 0 [] (.agg [(.int .i64 b_2.1), (Enc.enc (b_2.2 : List (Int × Int)))]))), (4, (.bool false)), (9, (.bool (a_1.1 != b_2.1)))] ⟨h2, h3, h4, rfl⟩ ?_
  rintro s ⟨h2, h3, h4, h9⟩
  refine .nsq ?_
  refine run_cond (t := (a_1.1 != b_2.1)) h9 h (fun h => ?_) (fun h => ?_)
  · refine .seq ?_
    refine run_reg ?_
    refine e_end ?_
    refine g_v0 (.bool false) rfl rfl ?_
    refine g_end ?_
    refine e_end ?_
    refine renew [(2, (.ref (.bx 2) 0 [] (.agg [(.int .i64 a_1.1), (Enc.enc (a_1.2 : List (Int × Int)))]))), (3, (.ref (.bx 3) 0 [] (.agg [(.int .i64 b_2.1), (Enc.enc (b_2.2 : List (Int × Int)))]))), (4, (.bool false))] ⟨h2, h3, rfl⟩ ?_
    rintro s ⟨h2, h3, h4⟩
    refine .nsq ?_
    refine .ret ?_
    have hr := Option.some.inj h
    subst hr
    exact rrA (res_tmp h4) rfl
  · refine .skip ?_
    refine .nsq ?_
    refine .seq ?_
    refine .seq ?_
    refine run_reg ?_
    refine e_end ?_
    refine g_v1 (t := 2) (u := (.ref (.bx 2) 0 [] (.agg [(.int .i64 a_1.1), (Enc.enc (a_1.2 : List (Int × Int)))]))) (.ref (.bx 2) 0 [1] (Enc.enc (a_1.2 : List (Int × Int)))) h2 rfl rfl ?_
    refine g_v1 (t := 10) (u := (.ref (.bx 2) 0 [1] (Enc.enc (a_1.2 : List (Int × Int))))) (Enc.enc (a_1.2 : List (Int × Int))) rfl rfl rfl ?_
    refine g_v1 (t := 3) (u := (.ref (.bx 3) 0 [] (.agg [(.int .i64 b_2.1), (Enc.enc (b_2.2 : List (Int × Int)))]))) (.ref (.bx 3) 0 [1] (Enc.enc (b_2.2 : List (Int × Int)))) h3 rfl rfl ?_
    refine g_v1 (t := 12) (u := (.ref (.bx 3) 0 [1] (Enc.enc (b_2.2 : List (Int × Int))))) (Enc.enc (b_2.2 : List (Int × Int))) rfl rfl rfl ?_
    obtain ⟨r_3, E_r_3, h⟩ := bind_some h
    refine g_call (m := 0) (al := false) (r := (Enc.enc (r_3 : Bool))) [Enc.enc (a_1.2 : (List (Int × Int))), Enc.enc (b_2.2 : (List (Int × Int)))] (ta_cons (v := (Enc.enc (a_1.2 : List (Int × Int)))) rfl rfl (Enc.erase_enc (a_1.2 : (List (Int × Int)))) (ta_cons (v := (Enc.enc (b_2.2 : List (Int × Int)))) rfl rfl (Enc.erase_enc (b_2.2 : (List (Int × Int)))) ta_nil)) (H.c53 _ _ _ E_r_3) H.g53 rfl rfl rfl rfl ?_
    refine g_v1 (t := 14) (u := (.bool r_3)) (.bool (!r_3)) rfl rfl rfl ?_
    refine g_end ?_
    refine e_end ?_
    refine renew [(4, (.bool false)), (15, (.bool (!r_3)))] ⟨h4, rfl⟩ ?_
    rintro s ⟨h4, h15⟩
    refine .nsq ?_
    refine run_cond (t := (!r_3)) h15 h (fun h => ?_) (fun h => ?_)
    · refine .seq ?_
      refine run_reg ?_
      refine e_end ?_
      refine g_v0 (.bool false) rfl rfl ?_
      refine g_end ?_
      refine e_end ?_
      refine renew [(4, (.bool false))] rfl ?_
      rintro s h4
      refine .nsq ?_
      refine .ret ?_
      have hr := Option.some.inj h
      subst hr
      exact rrA (res_tmp h4) rfl
    · refine .skip ?_
      refine .nsq ?_
      refine .seq ?_
      refine run_reg ?_
      refine e_end ?_
      refine g_v0 (.bool true) rfl rfl ?_
      refine g_end ?_
      refine e_end ?_
      refine renew [(4, (.bool true))] rfl ?_
      rintro s h4
      refine .nsq ?_
      refine .ret ?_
      have hr := Option.some.inj h
      subst hr
      exact rrA (res_tmp h4) rfl
end
def e20 (F : Nat) : Ent := ⟨20, dn2 (w_eqGraph F) (fun (r : Bool) => (Enc.enc (r : Bool))), 0, false⟩
theorem o20 {D : Den} {σ : Sig} {F : Nat} (hF : Fits2 Try.prog D σ) (H : H20 D σ F) : (e20 F).Ok Try.prog := by
  refine ⟨fun args r h => ?_, ⟨Try.f20, Try.func20, rfl, rfl⟩⟩
  obtain ⟨x0, x1, y, rfl, hy, rfl⟩ := dn2_open h
  exact contract_run hF (by kernel_rfl) Try.func20 rfl c20 (show 2 ≤ Try.f20.ntmps by decide) (t20 H x0 x1 _ ⟨rfl, rfl⟩ hy)
/- loop.example/g01109/laws.eqIntS -/
def A21_2 : AC := (AC.cond (O.t 14) AC.skip (AC.exit 0))
def A21_4 : AC := (AC.cond (O.t 25) (AC.seq (AC.reg [] [(I.mk (some 4) none false (X.v (A.mov (O.k (V.bool false)))))] []) AC.ret) AC.skip)
def A21_5 : AC := (AC.reg [] [(I.mk (some 15) none false (X.v (A.mov (O.t 5)))), (I.mk (some 16) none false (X.v (A.bin BinOp.add (O.t 15) (O.k (V.int IntKind.i64 (Int.ofNat 1)))))), (I.mk (some 5) none false (X.v (A.mov (O.t 16))))] [])
def A21_3 : AC := (AC.seq (AC.block 1 (AC.seq (AC.reg [] [(I.mk (some 17) none false (X.v (A.mov (O.t 0)))), (I.mk (some 18) none false (X.v (A.mov (O.t 5)))), (I.mk (some 19) none false (X.v (A.idx (O.t 17) (O.t 18) 1))), (I.mk (some 20) none false (X.v (A.load Sh.s (O.t 19)))), (I.mk (some 21) none false (X.v (A.mov (O.t 1)))), (I.mk (some 22) none false (X.v (A.mov (O.t 5)))), (I.mk (some 23) none false (X.v (A.idx (O.t 21) (O.t 22) 1))), (I.mk (some 24) none false (X.v (A.load Sh.s (O.t 23)))), (I.mk (some 25) none false (X.v (A.bin BinOp.neq (O.t 20) (O.t 24))))] []) A21_4)) A21_5)
def A21_1 : AC := (AC.seq (AC.seq (AC.reg [] [(I.mk (some 11) none false (X.v (A.mov (O.t 5)))), (I.mk (some 12) none false (X.v (A.mov (O.t 0)))), (I.mk (some 13) none false (X.v (A.len (O.t 12)))), (I.mk (some 14) none false (X.v (A.bin BinOp.lss (O.t 11) (O.t 13))))] []) A21_2) A21_3)
def A21_6 : AC := (AC.seq (AC.reg [] [(I.mk (some 4) none false (X.v (A.mov (O.k (V.bool true)))))] []) AC.ret)
def A21_8 : AC := (AC.cond (O.t 10) (AC.seq (AC.reg [] [(I.mk (some 4) none false (X.v (A.mov (O.k (V.bool false)))))] []) AC.ret) AC.skip)
def A21_10 : AC := (AC.block 0 (AC.loop A21_1))
def A21_9 : AC := (AC.seq (AC.seq (AC.reg [] [(I.mk (some 5) none false (X.v (A.mov (O.k (V.int IntKind.i64 (Int.ofNat 0))))))] []) A21_10) A21_6)
def A21_7 : AC := (AC.seq (AC.seq (AC.reg [] [(I.mk (some 6) none false (X.v (A.mov (O.t 0)))), (I.mk (some 7) none false (X.v (A.len (O.t 6)))), (I.mk (some 8) none false (X.v (A.mov (O.t 1)))), (I.mk (some 9) none false (X.v (A.len (O.t 8)))), (I.mk (some 10) none false (X.v (A.bin BinOp.neq (O.t 7) (O.t 9))))] []) A21_8) A21_9)
def A21 : AC := (AC.seq (AC.reg [] [(I.mk (some 4) none false (X.v (A.mov (O.k (V.bool false)))))] []) A21_7)
def an21 : List An := []
theorem c21 : cC Try.prog Try.f21.ntmps an21 (Try.f21.body.getD .skip) = some A21 := by kernel_rfl
structure H21 (D : Den) (σ : Sig) (F : Nat) : Prop where
  mk ::
abbrev R21 (r : Bool) : (Nat → V) → Prop := RR Try.prog [.tmp 4] 0 false (Enc.enc (r : Bool))
section
variable {D : Den} {σ : Sig} {F : Nat} {r : Bool}
def w_eqIntS_l1 (F : Nat) (a_1 : (List Int)) (b_2 : (List Int))  : Nat → Int → Option Bool
  | 0, _ => none
  | k + 1, i_5 =>
    bif decide (i_5 < (a_1.length : Int)) then
      (idx a_1 i_5).bind fun e_8 =>
      (idx b_2 i_5).bind fun e_9 =>
      bif (e_8 != e_9) then
        some false
      else
        (w_eqIntS_l1 F a_1 b_2 k) (w64 (i_5 + 1))
    else
      some true
theorem t_f21_l1 (H : H21 D σ F) (a_1 : (List Int)) (b_2 : (List Int))  : ∀ (k : Nat) (i_5 : Int) (s : Nat → V), Facts [(0, (Enc.enc (a_1 : List Int))), (1, (Enc.enc (b_2 : List Int))), (4, (.bool false)), (5, (.int .i64 i_5))] s → w_eqIntS_l1 F a_1 b_2 k i_5 = some r → Run D σ (R21 r) (.run A21_1 [.lp A21_1, .bk 0, .sq A21_6]) s := by
  intro k
  induction k with
  | zero => intro i_5 s _ h; exact nomatch (h : (none : Option _) = some r)
  | succ k ih =>
    intro i_5 s hs h
    rw [w_eqIntS_l1] at h
    obtain ⟨h0, h1, h4, h5⟩ := hs
    refine .seq ?_
    refine .seq ?_
    refine run_reg ?_
    refine e_end ?_
    refine g_v1 (t := 5) (u := (.int .i64 i_5)) (.int .i64 i_5) h5 rfl rfl ?_
    refine g_v1 (t := 0) (u := (Enc.enc (a_1 : List Int))) (Enc.enc (a_1 : List Int)) h0 rfl rfl ?_
    refine g_v (.int .i64 (a_1.length : Int)) (ev_len (xs := a_1) rfl) ?_
    refine g_v2 (t1 := 11) (t2 := 13) (u1 := (.int .i64 i_5)) (u2 := (.int .i64 (a_1.length : Int))) (.bool (decide (i_5 < (a_1.length : Int)))) rfl rfl rfl rfl ?_
    refine g_end ?_
    refine e_end ?_
    refine renew [(0, (Enc.enc (a_1 : List Int))), (1, (Enc.enc (b_2 : List Int))), (4, (.bool false)), (5, (.int .i64 i_5)), (14, (.bool (decide (i_5 < (a_1.length : Int)))))] ⟨h0, h1, h4, h5, rfl⟩ ?_
    rintro s ⟨h0, h1, h4, h5, h14⟩
    refine .nsq ?_
    refine run_cond (t := decide (i_5 < (a_1.length : Int))) h14 h (fun h => ?_) (fun h => ?_)
    · refine .skip ?_
      refine .nsq ?_
      refine .seq ?_
      refine .block ?_
      refine .seq ?_
      refine run_reg ?_
      refine e_end ?_
      refine g_v1 (t := 0) (u := (Enc.enc (a_1 : List Int))) (Enc.enc (a_1 : List Int)) h0 rfl rfl ?_
      refine g_v1 (t := 5) (u := (.int .i64 i_5)) (.int .i64 i_5) h5 rfl rfl ?_
      obtain ⟨e_8, E_e_8, h⟩ := bind_some h
      refine g_v (.ref .sh 0 [] (.int .i64 e_8)) (ev_idx (t := .sh) (lo := 0) (xs := a_1) rfl rfl E_e_8 rfl rfl) ?_
      refine g_v1 (t := 19) (u := (.ref .sh 0 [] (.int .i64 e_8))) (.int .i64 e_8) rfl rfl rfl ?_
      refine g_v1 (t := 1) (u := (Enc.enc (b_2 : List Int))) (Enc.enc (b_2 : List Int)) h1 rfl rfl ?_
      refine g_v1 (t := 5) (u := (.int .i64 i_5)) (.int .i64 i_5) h5 rfl rfl ?_
      obtain ⟨e_9, E_e_9, h⟩ := bind_some h
      refine g_v (.ref .sh 0 [] (.int .i64 e_9)) (ev_idx (t := .sh) (lo := 0) (xs := b_2) rfl rfl E_e_9 rfl rfl) ?_
      refine g_v1 (t := 23) (u := (.ref .sh 0 [] (.int .i64 e_9))) (.int .i64 e_9) rfl rfl rfl ?_
      refine g_v2 (t1 := 20) (t2 := 24) (u1 := (.int .i64 e_8)) (u2 := (.int .i64 e_9)) (.bool (e_8 != e_9)) rfl rfl rfl rfl ?_
      refine g_end ?_
      refine e_end ?_
      refine renew [(0, (Enc.enc (a_1 : List Int))), (1, (Enc.enc (b_2 : List Int))), (4, (.bool false)), (5, (.int .i64 i_5)), (25, (.bool (e_8 != e_9)))] ⟨h0, h1, h4, h5, rfl⟩ ?_
      rintro s ⟨h0, h1, h4, h5, h25⟩
      refine .nsq ?_
      refine run_cond (t := (e_8 != e_9)) h25 h (fun h => ?_) (fun h => ?_)
      · refine .seq ?_
        refine run_reg ?_
        refine e_end ?_
        refine g_v0 (.bool false) rfl rfl ?_
        refine g_end ?_
        refine e_end ?_
        refine renew [(0, (Enc.enc (a_1 : List Int))), (1, (Enc.enc (b_2 : List Int))), (4, (.bool false)), (5, (.int .i64 i_5))] ⟨h0, h1, rfl, h5⟩ ?_
        rintro s ⟨h0, h1, h4, h5⟩
        refine .nsq ?_
        refine .ret ?_
        have hr := Option.some.inj h
        subst hr
        exact rrA (res_tmp h4) rfl
      · refine .skip ?_
        refine .nbk ?_
        refine .nsq ?_
        refine run_reg ?_
        refine e_end ?_
        refine g_v1 (t := 5) (u := (.int .i64 i_5)) (.int .i64 i_5) h5 rfl rfl ?_
        refine g_v1 (t := 15) (u := (.int .i64 i_5)) (.int .i64 (w64 (i_5 + 1))) rfl rfl rfl ?_
        refine g_v1 (t := 16) (u := (.int .i64 (w64 (i_5 + 1)))) (.int .i64 (w64 (i_5 + 1))) rfl rfl rfl ?_
        refine g_end ?_
        refine e_end ?_
        refine renew [(0, (Enc.enc (a_1 : List Int))), (1, (Enc.enc (b_2 : List Int))), (4, (.bool false)), (5, (.int .i64 (w64 (i_5 + 1))))] ⟨h0, h1, h4, rfl⟩ ?_
        rintro s ⟨h0, h1, h4, h5⟩
        refine .nlp ?_
        exact ih (w64 (i_5 + 1)) _ ⟨h0, h1, h4, h5⟩ h
    · refine .exit ?_
      refine .esq ?_
      refine .elp ?_
      refine .ebk ?_
      refine .nsq ?_
      refine .seq ?_
      refine run_reg ?_
      refine e_end ?_
      refine g_v0 (.bool true) rfl rfl ?_
      refine g_end ?_
      refine e_end ?_
      refine renew [(4, (.bool true))] rfl ?_
      rintro s h4
      refine .nsq ?_
      refine .ret ?_
      have hr := Option.some.inj h
      subst hr
      exact rrA (res_tmp h4) rfl
def w_eqIntS (F : Nat) (a_1 : (List Int)) (b_2 : (List Int)) : Option Bool :=
  bif ((a_1.length : Int) != (b_2.length : Int)) then
    some false
  else
    w_eqIntS_l1 F a_1 b_2 F 0
theorem t21 (H : H21 D σ F) (a_1 : (List Int)) (b_2 : (List Int)) (s : Nat → V) (hs : Facts [(0, (Enc.enc (a_1 : List Int))), (1, (Enc.enc (b_2 : List Int)))] s) (h : w_eqIntS F a_1 b_2 = some r) : Run D σ (R21 r) (.run A21 []) s := by
  unfold w_eqIntS at h
  obtain ⟨h0, h1⟩ := hs
  refine .seq ?_
  refine run_reg ?_
  refine e_end ?_
  refine g_v0 (.bool false) rfl rfl ?_
  refine g_end ?_
  refine e_end ?_
  refine renew [(0, (Enc.enc (a_1 : List Int))), (1, (Enc.enc (b_2 : List Int))), (4, (.bool false))] ⟨h0, h1, rfl⟩ ?_
  rintro s ⟨h0, h1, h4⟩
  refine .nsq ?_
  refine .seq ?_
  refine .seq ?_
  refine run_reg ?_
  refine e_end ?_
  refine g_v1 (t := 0) (u := (Enc.enc (a_1 : List Int))) (Enc.enc (a_1 : List Int)) h0 rfl rfl ?_
  refine g_v (.int .i64 (a_1.length : Int)) (ev_len (xs := a_1) rfl) ?_
  refine g_v1 (t := 1) (u := (Enc.enc (b_2 : List Int))) (Enc.enc (b_2 : List Int)) h1 rfl rfl ?_
  refine g_v (.int .i64 (b_2.length : Int)) (ev_len (xs := b_2) rfl) ?_
  refine g_v2 (t1 := 7) (t2 := 9) (u1 := (.int .i64 (a_1.length : Int))) (u2 := (.int .i64 (b_2.length : Int))) (.bool ((a_1.length : Int) != (b_2.length : Int))) rfl rfl rfl rfl ?_
  refine g_end ?_
  refine e_end ?_
  refine renew [(0, (Enc.enc (a_1 : List Int))), (1, (Enc.enc (b_2 : List Int))), (4, (.bool false)), (10, (.bool ((a_1.length : Int) != (b_2.length : Int))))] ⟨h0, h1, h4, rfl⟩ ?_
  rintro s ⟨h0, h1, h4, h10⟩
  refine .nsq ?_
  refine run_cond (t := ((a_1.length : Int) != (b_2.length : Int))) h10 h (fun h => ?_) (fun h => ?_)
  · refine .seq ?_
    refine run_reg ?_
    refine e_end ?_
    refine g_v0 (.bool false) rfl rfl ?_
    refine g_end ?_
    refine e_end ?_
    refine renew [(0, (Enc.enc (a_1 : List Int))), (1, (Enc.enc (b_2 : List Int))), (4, (.bool false))] ⟨h0, h1, rfl⟩ ?_
    rintro s ⟨h0, h1, h4⟩
    refine .nsq ?_
    refine .ret ?_
    have hr := Option.some.inj h
    subst hr
    exact rrA (res_tmp h4) rfl
  · refine .skip ?_
    refine .nsq ?_
    refine .seq ?_
    refine .seq ?_
    refine run_reg ?_
    refine e_end ?_
    refine g_v0 (.int .i64 0) rfl rfl ?_
    refine g_end ?_
    refine e_end ?_
    refine renew [(0, (Enc.enc (a_1 : List Int))), (1, (Enc.enc (b_2 : List Int))), (4, (.bool false)), (5, (.int .i64 0))] ⟨h0, h1, h4, rfl⟩ ?_
    rintro s ⟨h0, h1, h4, h5⟩
    refine .nsq ?_
    refine .block ?_
    refine .loop ?_
    exact t_f21_l1 H a_1 b_2 F 0 _ ⟨h0, h1, h4, h5⟩ h
end
def e21 (F : Nat) : Ent := ⟨21, dn2 (w_eqIntS F) (fun (r : Bool) => (Enc.enc (r : Bool))), 0, false⟩
theorem o21 {D : Den} {σ : Sig} {F : Nat} (hF : Fits2 Try.prog D σ) (H : H21 D σ F) : (e21 F).Ok Try.prog := by
  refine ⟨fun args r h => ?_, ⟨Try.f21, Try.func21, rfl, rfl⟩⟩
  obtain ⟨x0, x1, y, rfl, hy, rfl⟩ := dn2_open h
  exact contract_run hF (by kernel_rfl) Try.func21 rfl c21 (show 2 ≤ Try.f21.ntmps by decide) (t21 H x0 x1 _ ⟨rfl, rfl⟩ hy)
/- loop.example/g01109/laws.FnExactForestDepth -/
def A3_1 : AC := (AC.cond (O.t 45) (AC.seq (AC.reg [] [(I.mk (some 4) none false (X.v (A.mov (O.k (V.bool false)))))] []) AC.ret) AC.skip)
def A3_3 : AC := (AC.cond (O.t 50) (AC.seq (AC.reg [] [(I.mk (some 4) none false (X.v (A.mov (O.k (V.bool false)))))] []) AC.ret) AC.skip)
def A3_5 : AC := (AC.cond (O.t 55) (AC.seq (AC.reg [] [(I.mk (some 4) none false (X.v (A.mov (O.k (V.bool false)))))] []) AC.ret) AC.skip)
def A3_6 : AC := (AC.seq (AC.reg [] [(I.mk (some 4) none false (X.v (A.mov (O.k (V.bool true)))))] []) AC.ret)
def A3_4 : AC := (AC.seq (AC.seq (AC.reg [] [(I.mk (some 51) none false (X.v (A.mov (O.t 9)))), (I.mk (some 52) none false (X.v (A.mov (O.t 1)))), (I.mk (some 53) none false (X.call (O.k (V.fn 18 [] [])) [(O.t 52)])), (I.mk (some 54) none false (X.call (O.k (V.fn 21 [] [])) [(O.t 51), (O.t 53)])), (I.mk (some 55) none false (X.v (A.un UnOp.not (O.t 54))))] []) A3_5) A3_6)
def A3_2 : AC := (AC.seq (AC.seq (AC.reg [] [(I.mk (some 46) none false (X.v (A.load (Sh.ag [Sh.s, Sh.p]) (O.t 8)))), (I.mk (some 47) none false (X.v (A.load (Sh.ag [Sh.s, Sh.p]) (O.t 2)))), (I.mk (some 48) none false (X.call (O.k (V.fn 17 [] [])) [(O.t 47)])), (I.mk (some 49) none false (X.call (O.k (V.fn 20 [] [])) [(O.t 46), (O.t 48)])), (I.mk (some 50) none false (X.v (A.un UnOp.not (O.t 49))))] []) A3_3) A3_4)
def A3_8 : AC := (AC.cond (O.t 14) (AC.seq (AC.reg [] [(I.mk (some 4) none false (X.v (A.mov (O.k (V.bool true)))))] []) AC.ret) AC.skip)
def A3_12 : AC := (AC.cond (O.t 19) (AC.seq (AC.reg [] [(I.mk (some 4) none false (X.v (A.mov (O.k (V.bool true)))))] []) AC.ret) AC.skip)
def A3_17 : AC := (AC.seq (AC.seq (AC.reg [] [(I.mk (some 38) none false (X.v (A.mov (O.t 10)))), (I.mk (some 39) none false (X.v (A.mov (O.t 6)))), (I.mk (some 40) none false (X.v (A.bin BinOp.neq (O.t 38) (O.t 39)))), (I.mk (some 41) none false (X.v (A.mov (O.t 40)))), (I.mk (some 42) (some (41, false)) false (X.v (A.mov (O.t 11)))), (I.mk (some 43) (some (41, false)) false (X.v (A.mov (O.t 7)))), (I.mk (some 44) (some (41, false)) false (X.v (A.beq true (O.t 42) (O.t 43)))), (I.mk (some 45) none false (X.v (A.pick (O.t 41) (O.k (V.bool true)) (O.t 44))))] []) A3_1) A3_2)
def A3_16 : AC := (AC.seq (AC.reg [] [(I.mk (some 33) none false (X.v (A.load (Sh.ag [Sh.s, Sh.p]) (O.t 8)))), (I.mk (some 34) none false (X.v (A.mov (O.t 9)))), (I.mk (some 35) none false (X.call (O.k (V.fn 19 [] [])) [(O.t 33), (O.t 34)])), (I.mk (some 32) none false (X.v (A.mov (O.t 35)))), (I.mk (some 36) none false (X.v (A.ext (O.t 32) 0))), (I.mk (some 37) none false (X.v (A.ext (O.t 32) 1))), (I.mk (some 10) none false (X.v (A.mov (O.t 36)))), (I.mk (some 11) none false (X.v (A.mov (O.t 37))))] []) A3_17)
def A3_15 : AC := (AC.seq (AC.reg [] [(I.mk (some 30) none false (X.v (A.mov (O.t 1)))), (I.mk (some 31) none false (X.call (O.k (V.fn 18 [] [])) [(O.t 30)])), (I.mk (some 9) none false (X.v (A.mov (O.t 31))))] []) A3_16)
def A3_14 : AC := (AC.seq (AC.reg [.clr [8]] [(I.mk (some 28) none false (X.v (A.load (Sh.ag [Sh.s, Sh.p]) (O.t 2)))), (I.mk (some 29) none false (X.call (O.k (V.fn 17 [] [])) [(O.t 28)])), (I.mk (some 8) none false (X.alloc (V.agg [(V.int IntKind.i64 (Int.ofNat 0)), (V.sl Tok.nl (Sh.ag [Sh.s, Sh.s]) 0 [])]))), (I.mk none none false (X.store (Sh.ag [Sh.s, Sh.p]) (O.t 8) (O.t 29)))] []) A3_15)
def A3_13 : AC := (AC.seq (AC.reg [] [(I.mk (some 21) none false (X.v (A.load (Sh.ag [Sh.s, Sh.p]) (O.t 2)))), (I.mk (some 22) none false (X.call (O.k (V.fn 17 [] [])) [(O.t 21)])), (I.mk (some 23) none false (X.v (A.mov (O.t 1)))), (I.mk (some 24) none false (X.call (O.k (V.fn 18 [] [])) [(O.t 23)])), (I.mk (some 25) none false (X.call (O.k (V.fn 16 [] [])) [(O.t 22), (O.t 24)])), (I.mk (some 20) none false (X.v (A.mov (O.t 25)))), (I.mk (some 26) none false (X.v (A.ext (O.t 20) 0))), (I.mk (some 27) none false (X.v (A.ext (O.t 20) 1))), (I.mk (some 6) none false (X.v (A.mov (O.t 26)))), (I.mk (some 7) none false (X.v (A.mov (O.t 27))))] []) A3_14)
def A3_11 : AC := (AC.seq (AC.seq (AC.reg [] [(I.mk (some 18) none false (X.v (A.mov (O.t 5)))), (I.mk (some 19) none false (X.v (A.bin BinOp.lss (O.t 18) (O.k (V.int IntKind.i64 (Int.ofNat 0))))))] []) A3_12) A3_13)
def A3_10 : AC := (AC.seq (AC.reg [] [(I.mk (some 15) none false (X.v (A.load (Sh.ag [Sh.s, Sh.p]) (O.t 2)))), (I.mk (some 16) none false (X.v (A.mov (O.t 5)))), (I.mk (some 17) none false (X.call (O.k (V.fn 15 [] [])) [(O.t 15), (O.t 16)])), (I.mk (some 5) none false (X.v (A.mov (O.t 17))))] []) A3_11)
def A3_9 : AC := (AC.seq (AC.reg [] [(I.mk (some 5) none false (X.v (A.mov (O.k (V.int IntKind.i64 (Int.ofNat 1048576))))))] []) A3_10)
def A3_7 : AC := (AC.seq (AC.seq (AC.reg [] [(I.mk (some 12) none false (X.v (A.mov (O.t 1)))), (I.mk (some 13) none false (X.v (A.len (O.t 12)))), (I.mk (some 14) none false (X.v (A.bin BinOp.gtr (O.t 13) (O.k (V.int IntKind.i64 (Int.ofNat 1048576))))))] []) A3_8) A3_9)
def A3 : AC := (AC.seq (AC.reg [.clr [2]] [(I.mk (some 2) none false (X.box (O.t 0))), (I.mk (some 4) none false (X.v (A.mov (O.k (V.bool false)))))] []) A3_7)
def an3 : List An := [{ id := 0, pre := [.clr [2]], ep := [] }, { id := 8, pre := [.clr [8]], ep := [] }]
theorem c3 : cC Try.prog Try.f3.ntmps an3 (Try.f3.body.getD .skip) = some A3 := by kernel_rfl
structure H3 (D : Den) (σ : Sig) (F : Nat) : Prop where
  c15 : ∀ x0 x1 r, w_szGraph F x0 x1 = some r → D 15 [Enc.enc x0, Enc.enc x1] = some (Enc.enc (r : Int))
  g15 : σ 15 = some (0, false)
  c17 : ∀ x0 r, w_toGraph F x0 = some r → D 17 [Enc.enc x0] = some (Enc.enc (r : (Int × (List (Int × Int)))))
  g17 : σ 17 = some (0, true)
  c18 : ∀ x0 r, w_toIntS F x0 = some r → D 18 [Enc.enc x0] = some (Enc.enc (r : (List Int)))
  g18 : σ 18 = some (0, true)
  c16 : ∀ x0 x1 r, s_ForestDepth F x0 x1 = some r → D 16 [Enc.enc x0, Enc.enc x1] = some (.tup [Enc.enc (r.1 : Int), Enc.enc (r.2 : Bool)])
  g16 : σ 16 = some (0, false)
  c19 : ∀ x0 x1 r, i_ForestDepth F x0 x1 = some r → D 19 [Enc.enc x0, Enc.enc x1] = some (.tup [Enc.enc (r.1 : Int), Enc.enc (r.2 : Bool)])
  g19 : σ 19 = some (0, false)
  c20 : ∀ x0 x1 r, w_eqGraph F x0 x1 = some r → D 20 [Enc.enc x0, Enc.enc x1] = some (Enc.enc (r : Bool))
  g20 : σ 20 = some (0, false)
  c21 : ∀ x0 x1 r, w_eqIntS F x0 x1 = some r → D 21 [Enc.enc x0, Enc.enc x1] = some (Enc.enc (r : Bool))
  g21 : σ 21 = some (0, false)
abbrev R3 (r : Bool) : (Nat → V) → Prop := RR Try.prog [.tmp 4] 0 false (Enc.enc (r : Bool))
section
variable {D : Den} {σ : Sig} {F : Nat} {r : Bool}
def w_FnExactForestDepth_j1 (F : Nat) (aParents_2 : (List Int)) (aG_1 : (Int × (List (Int × Int)))) (r_7 : (Int × (List (Int × Int)))) (r_8 : (List Int))  (t45_10 : Bool) : Option Bool :=
  bif t45_10 then
    some false
  else
    (w_toGraph F aG_1).bind fun r_11 =>
    (w_eqGraph F r_7 r_11).bind fun r_12 =>
    bif (!r_12) then
      some false
    else
      (w_toIntS F aParents_2).bind fun r_13 =>
      (w_eqIntS F r_8 r_13).bind fun r_14 =>
      bif (!r_14) then
        some false
      else
        some true
theorem t_f3_j1 (H : H3 D σ F) (aParents_2 : (List Int)) (aG_1 : (Int × (List (Int × Int)))) (r_7 : (Int × (List (Int × Int)))) (r_8 : (List Int))  (t45_10 : Bool) (s : Nat → V) (hs : Facts [(1, (Enc.enc (aParents_2 : List Int))), (2, (.ref (.bx 2) 0 [] (.agg [(.int .i64 aG_1.1), (Enc.enc (aG_1.2 : List (Int × Int)))]))), (4, (.bool false)), (8, (.ref (.bx 8) 0 [] (.agg [(.int .i64 r_7.1), (Enc.enc (r_7.2 : List (Int × Int)))]))), (9, (Enc.enc (r_8 : List Int))), (45, (.bool t45_10))] s) (h : w_FnExactForestDepth_j1 F aParents_2 aG_1 r_7 r_8  t45_10 = some r) : Run D σ (R3 r) (.nrm [.sq A3_1, .sq A3_2]) s := by
  unfold w_FnExactForestDepth_j1 at h
  obtain ⟨h1, h2, h4, h8, h9, h45⟩ := hs
  refine .nsq ?_
  refine run_cond (t := t45_10) h45 h (fun h => ?_) (fun h => ?_)
  · refine .seq ?_
    refine run_reg ?_
    refine e_end ?_
    refine g_v0 (.bool false) rfl rfl ?_
    refine g_end ?_
    refine e_end ?_
    refine renew [(1, (Enc.enc (aParents_2 : List Int))), (2, (.ref (.bx 2) 0 [] (.agg [(.int .i64 aG_1.1), (Enc.enc (aG_1.2 : List (Int × Int)))]))), (4, (.bool false)), (8, (.ref (.bx 8) 0 [] (.agg [(.int .i64 r_7.1), (Enc.enc (r_7.2 : List (Int × Int)))]))), (9, (Enc.enc (r_8 : List Int)))] ⟨h1, h2, rfl, h8, h9⟩ ?_
    rintro s ⟨h1, h2, h4, h8, h9⟩
    refine .nsq ?_
    refine .ret ?_
    have hr := Option.some.inj h
    subst hr
    exact rrA (res_tmp h4) rfl
  · refine .skip ?_
    refine .nsq ?_
    refine .seq ?_
    refine .seq ?_
    refine run_reg ?_
    refine e_end ?_
    refine g_v1 (t := 8) (u := (.ref (.bx 8) 0 [] (.agg [(.int .i64 r_7.1), (Enc.enc (r_7.2 : List (Int × Int)))]))) (.agg [(.int .i64 r_7.1), (Enc.enc (r_7.2 : List (Int × Int)))]) h8 rfl rfl ?_
    refine g_v1 (t := 2) (u := (.ref (.bx 2) 0 [] (.agg [(.int .i64 aG_1.1), (Enc.enc (aG_1.2 : List (Int × Int)))]))) (.agg [(.int .i64 aG_1.1), (Enc.enc (aG_1.2 : List (Int × Int)))]) h2 rfl rfl ?_
    obtain ⟨r_11, E_r_11, h⟩ := bind_some h
    refine g_call (m := 0) (al := true) (r := (Enc.enc (r_11 : (Int × (List (Int × Int)))))) [Enc.enc (aG_1 : (Int × (List (Int × Int))))] (ta_cons (v := (.agg [(.int .i64 aG_1.1), (Enc.enc (aG_1.2 : List (Int × Int)))])) rfl rfl (Enc.erase_enc (aG_1 : (Int × (List (Int × Int))))) ta_nil) (H.c17 _ _ E_r_11) H.g17 (hal_of (ht_cons (v := (.agg [(.int .i64 aG_1.1), (Enc.enc (aG_1.2 : List (Int × Int)))])) rfl rfl rfl ht_nil)) rfl rfl rfl ?_
    obtain ⟨r_12, E_r_12, h⟩ := bind_some h
    refine g_call (m := 0) (al := false) (r := (Enc.enc (r_12 : Bool))) [Enc.enc (r_7 : (Int × (List (Int × Int)))), Enc.enc (r_11 : (Int × (List (Int × Int))))] (ta_cons (v := (.agg [(.int .i64 r_7.1), (Enc.enc (r_7.2 : List (Int × Int)))])) rfl rfl (Enc.erase_enc (r_7 : (Int × (List (Int × Int))))) (ta_cons (v := (.agg [(.int .i64 r_11.1), (Enc.enc (r_11.2 : List (Int × Int)))])) rfl rfl (Enc.erase_enc (r_11 : (Int × (List (Int × Int))))) ta_nil)) (H.c20 _ _ _ E_r_12) H.g20 rfl rfl rfl rfl ?_
    refine g_v1 (t := 49) (u := (.bool r_12)) (.bool (!r_12)) rfl rfl rfl ?_
    refine g_end ?_
    refine e_end ?_
    refine renew [(1, (Enc.enc (aParents_2 : List Int))), (4, (.bool false)), (9, (Enc.enc (r_8 : List Int))), (50, (.bool (!r_12)))] ⟨h1, h4, h9, rfl⟩ ?_
    rintro s ⟨h1, h4, h9, h50⟩
    refine .nsq ?_
    refine run_cond (t := (!r_12)) h50 h (fun h => ?_) (fun h => ?_)
    · refine .seq ?_
      refine run_reg ?_
      refine e_end ?_
      refine g_v0 (.bool false) rfl rfl ?_
      refine g_end ?_
      refine e_end ?_
      refine renew [(1, (Enc.enc (aParents_2 : List Int))), (4, (.bool false)), (9, (Enc.enc (r_8 : List Int)))] ⟨h1, rfl, h9⟩ ?_
      rintro s ⟨h1, h4, h9⟩
      refine .nsq ?_
      refine .ret ?_
      have hr := Option.some.inj h
      subst hr
      exact rrA (res_tmp h4) rfl
    · refine .skip ?_
      refine .nsq ?_
      refine .seq ?_
      refine .seq ?_
      refine run_reg ?_
      refine e_end ?_
      refine g_v1 (t := 9) (u := (Enc.enc (r_8 : List Int))) (Enc.enc (r_8 : List Int)) h9 rfl rfl ?_
      refine g_v1 (t := 1) (u := (Enc.enc (aParents_2 : List Int))) (Enc.enc (aParents_2 : List Int)) h1 rfl rfl ?_
      obtain ⟨r_13, E_r_13, h⟩ := bind_some h
      refine g_call (m := 0) (al := true) (r := (Enc.enc (r_13 : (List Int)))) [Enc.enc (aParents_2 : (List Int))] (ta_cons (v := (Enc.enc (aParents_2 : List Int))) rfl rfl (Enc.erase_enc (aParents_2 : (List Int))) ta_nil) (H.c18 _ _ E_r_13) H.g18 (hal_of (ht_cons (v := (Enc.enc (aParents_2 : List Int))) rfl rfl rfl ht_nil)) rfl rfl rfl ?_
      obtain ⟨r_14, E_r_14, h⟩ := bind_some h
      refine g_call (m := 0) (al := false) (r := (Enc.enc (r_14 : Bool))) [Enc.enc (r_8 : (List Int)), Enc.enc (r_13 : (List Int))] (ta_cons (v := (Enc.enc (r_8 : List Int))) rfl rfl (Enc.erase_enc (r_8 : (List Int))) (ta_cons (v := (Enc.enc (r_13 : List Int))) rfl rfl (Enc.erase_enc (r_13 : (List Int))) ta_nil)) (H.c21 _ _ _ E_r_14) H.g21 rfl rfl rfl rfl ?_
      refine g_v1 (t := 54) (u := (.bool r_14)) (.bool (!r_14)) rfl rfl rfl ?_
      refine g_end ?_
      refine e_end ?_
      refine renew [(4, (.bool false)), (55, (.bool (!r_14)))] ⟨h4, rfl⟩ ?_
      rintro s ⟨h4, h55⟩
      refine .nsq ?_
      refine run_cond (t := (!r_14)) h55 h (fun h => ?_) (fun h => ?_)
      · refine .seq ?_
        refine run_reg ?_
        refine e_end ?_
        refine g_v0 (.bool false) rfl rfl ?_
        refine g_end ?_
        refine e_end ?_
        refine renew [(4, (.bool false))] rfl ?_
        rintro s h4
        refine .nsq ?_
        refine .ret ?_
        have hr := Option.some.inj h
        subst hr
        exact rrA (res_tmp h4) rfl
      · refine .skip ?_
        refine .nsq ?_
        refine .seq ?_
        refine run_reg ?_
        refine e_end ?_
        refine g_v0 (.bool true) rfl rfl ?_
        refine g_end ?_
        refine e_end ?_
        refine renew [(4, (.bool true))] rfl ?_
        rintro s h4
        refine .nsq ?_
        refine .ret ?_
        have hr := Option.some.inj h
        subst hr
        exact rrA (res_tmp h4) rfl
def w_FnExactForestDepth (F : Nat) (aG_1 : (Int × (List (Int × Int)))) (aParents_2 : (List Int)) : Option Bool :=
  bif decide ((aParents_2.length : Int) > 1048576) then
    some true
  else
    (w_szGraph F aG_1 1048576).bind fun r_3 =>
    bif decide (r_3 < 0) then
      some true
    else
      (w_toGraph F aG_1).bind fun r_4 =>
      (w_toIntS F aParents_2).bind fun r_5 =>
      (s_ForestDepth F r_4 r_5).bind fun r_6 =>
      (w_toGraph F aG_1).bind fun r_7 =>
      (w_toIntS F aParents_2).bind fun r_8 =>
      (i_ForestDepth F r_7 r_8).bind fun r_9 =>
      bif (r_9.1 != r_6.1) then
        w_FnExactForestDepth_j1 F aParents_2 aG_1 r_7 r_8 true
      else
        w_FnExactForestDepth_j1 F aParents_2 aG_1 r_7 r_8 (r_9.2 != r_6.2)
theorem t3 (H : H3 D σ F) (aG_1 : (Int × (List (Int × Int)))) (aParents_2 : (List Int)) (s : Nat → V) (hs : Facts [(0, (.agg [(.int .i64 aG_1.1), (Enc.enc (aG_1.2 : List (Int × Int)))])), (1, (Enc.enc (aParents_2 : List Int)))] s) (h : w_FnExactForestDepth F aG_1 aParents_2 = some r) : Run D σ (R3 r) (.run A3 []) s := by
  unfold w_FnExactForestDepth at h
  obtain ⟨h0, h1⟩ := hs
  refine .seq ?_
  refine run_reg ?_
  refine e_clr ?_
  refine e_end ?_
  refine g_box (.agg [(.int .i64 aG_1.1), (Enc.enc (aG_1.2 : List (Int × Int)))]) (rd_of (keep_clear (s := s) (pk := [2]) h0 rfl (map_agg (maps_cons rfl (maps_cons (Enc.map_enc _ (aG_1.2 : List (Int × Int))) maps_nil)))) rfl) (gone_clear (s := s) (pk := [2]) (t := 2) rfl) rfl ?_
  refine g_v0 (.bool false) rfl rfl ?_
  refine g_end ?_
  refine e_end ?_
  refine renew [(1, (Enc.enc (aParents_2 : List Int))), (2, (.ref (.bx 2) 0 [] (.agg [(.int .i64 aG_1.1), (Enc.enc (aG_1.2 : List (Int × Int)))]))), (4, (.bool false))] ⟨(keep_clear (s := s) (pk := [2]) h1 rfl (Enc.map_enc _ (aParents_2 : List Int))), rfl, rfl⟩ ?_
  rintro s ⟨h1, h2, h4⟩
  refine .nsq ?_
  refine .seq ?_
  refine .seq ?_
  refine run_reg ?_
  refine e_end ?_
  refine g_v1 (t := 1) (u := (Enc.enc (aParents_2 : List Int))) (Enc.enc (aParents_2 : List Int)) h1 rfl rfl ?_
  refine g_v (.int .i64 (aParents_2.length : Int)) (ev_len (xs := aParents_2) rfl) ?_
  refine g_v1 (t := 13) (u := (.int .i64 (aParents_2.length : Int))) (.bool (decide ((aParents_2.length : Int) > 1048576))) rfl rfl rfl ?_
  refine g_end ?_
  refine e_end ?_
  refine renew [(1, (Enc.enc (aParents_2 : List Int))), (2, (.ref (.bx 2) 0 [] (.agg [(.int .i64 aG_1.1), (Enc.enc (aG_1.2 : List (Int × Int)))]))), (4, (.bool false)), (14, (.bool (decide ((aParents_2.length : Int) > 1048576))))] ⟨h1, h2, h4, rfl⟩ ?_
  rintro s ⟨h1, h2, h4, h14⟩
  refine .nsq ?_
  refine run_cond (t := decide ((aParents_2.length : Int) > 1048576)) h14 h (fun h => ?_) (fun h => ?_)
  · refine .seq ?_
    refine run_reg ?_
    refine e_end ?_
    refine g_v0 (.bool true) rfl rfl ?_
    refine g_end ?_
    refine e_end ?_
    refine renew [(1, (Enc.enc (aParents_2 : List Int))), (2, (.ref (.bx 2) 0 [] (.agg [(.int .i64 aG_1.1), (Enc.enc (aG_1.2 : List (Int × Int)))]))), (4, (.bool true))] ⟨h1, h2, rfl⟩ ?_
    rintro s ⟨h1, h2, h4⟩
    refine .nsq ?_
    refine .ret ?_
    have hr := Option.some.inj h
    subst hr
    exact rrA (res_tmp h4) rfl
  · refine .skip ?_
    refine .nsq ?_
    refine .seq ?_
    refine run_reg ?_
    refine e_end ?_
    refine g_v0 (.int .i64 1048576) rfl rfl ?_
    refine g_end ?_
    refine e_end ?_
    refine renew [(1, (Enc.enc (aParents_2 : List Int))), (2, (.ref (.bx 2) 0 [] (.agg [(.int .i64 aG_1.1), (Enc.enc (aG_1.2 : List (Int × Int)))]))), (4, (.bool false)), (5, (.int .i64 1048576))] ⟨h1, h2, h4, rfl⟩ ?_
    rintro s ⟨h1, h2, h4, h5⟩
    refine .nsq ?_
    refine .seq ?_
    refine run_reg ?_
    refine e_end ?_
    refine g_v1 (t := 2) (u := (.ref (.bx 2) 0 [] (.agg [(.int .i64 aG_1.1), (Enc.enc (aG_1.2 : List (Int × Int)))]))) (.agg [(.int .i64 aG_1.1), (Enc.enc (aG_1.2 : List (Int × Int)))]) h2 rfl rfl ?_
    refine g_v1 (t := 5) (u := (.int .i64 1048576)) (.int .i64 1048576) h5 rfl rfl ?_
    obtain ⟨r_3, E_r_3, h⟩ := bind_some h
    refine g_call (m := 0) (al := false) (r := (Enc.enc (r_3 : Int))) [Enc.enc (aG_1 : (Int × (List (Int × Int)))), Enc.enc (1048576 : Int)] (ta_cons (v := (.agg [(.int .i64 aG_1.1), (Enc.enc (aG_1.2 : List (Int × Int)))])) rfl rfl (Enc.erase_enc (aG_1 : (Int × (List (Int × Int))))) (ta_cons (v := (.int .i64 1048576)) rfl rfl rfl ta_nil)) (H.c15 _ _ _ E_r_3) H.g15 rfl rfl rfl rfl ?_
    refine g_v1 (t := 17) (u := (.int .i64 r_3)) (.int .i64 r_3) rfl rfl rfl ?_
    refine g_end ?_
    refine e_end ?_
    refine renew [(1, (Enc.enc (aParents_2 : List Int))), (2, (.ref (.bx 2) 0 [] (.agg [(.int .i64 aG_1.1), (Enc.enc (aG_1.2 : List (Int × Int)))]))), (4, (.bool false)), (5, (.int .i64 r_3))] ⟨h1, h2, h4, rfl⟩ ?_
    rintro s ⟨h1, h2, h4, h5⟩
    refine .nsq ?_
    refine .seq ?_
    refine .seq ?_
    refine run_reg ?_
    refine e_end ?_
    refine g_v1 (t := 5) (u := (.int .i64 r_3)) (.int .i64 r_3) h5 rfl rfl ?_
    refine g_v1 (t := 18) (u := (.int .i64 r_3)) (.bool (decide (r_3 < 0))) rfl rfl rfl ?_
    refine g_end ?_
    refine e_end ?_
    refine renew [(1, (Enc.enc (aParents_2 : List Int))), (2, (.ref (.bx 2) 0 [] (.agg [(.int .i64 aG_1.1), (Enc.enc (aG_1.2 : List (Int × Int)))]))), (4, (.bool false)), (19, (.bool (decide (r_3 < 0))))] ⟨h1, h2, h4, rfl⟩ ?_
    rintro s ⟨h1, h2, h4, h19⟩
    refine .nsq ?_
    refine run_cond (t := decide (r_3 < 0)) h19 h (fun h => ?_) (fun h => ?_)
    · refine .seq ?_
      refine run_reg ?_
      refine e_end ?_
      refine g_v0 (.bool true) rfl rfl ?_
      refine g_end ?_
      refine e_end ?_
      refine renew [(1, (Enc.enc (aParents_2 : List Int))), (2, (.ref (.bx 2) 0 [] (.agg [(.int .i64 aG_1.1), (Enc.enc (aG_1.2 : List (Int × Int)))]))), (4, (.bool true))] ⟨h1, h2, rfl⟩ ?_
      rintro s ⟨h1, h2, h4⟩
      refine .nsq ?_
      refine .ret ?_
      have hr := Option.some.inj h
      subst hr
      exact rrA (res_tmp h4) rfl
    · refine .skip ?_
      refine .nsq ?_
      refine .seq ?_
      refine run_reg ?_
      refine e_end ?_
      refine g_v1 (t := 2) (u := (.ref (.bx 2) 0 [] (.agg [(.int .i64 aG_1.1), (Enc.enc (aG_1.2 : List (Int × Int)))]))) (.agg [(.int .i64 aG_1.1), (Enc.enc (aG_1.2 : List (Int × Int)))]) h2 rfl rfl ?_
      obtain ⟨r_4, E_r_4, h⟩ := bind_some h
      refine g_call (m := 0) (al := true) (r := (Enc.enc (r_4 : (Int × (List (Int × Int)))))) [Enc.enc (aG_1 : (Int × (List (Int × Int))))] (ta_cons (v := (.agg [(.int .i64 aG_1.1), (Enc.enc (aG_1.2 : List (Int × Int)))])) rfl rfl (Enc.erase_enc (aG_1 : (Int × (List (Int × Int))))) ta_nil) (H.c17 _ _ E_r_4) H.g17 (hal_of (ht_cons (v := (.agg [(.int .i64 aG_1.1), (Enc.enc (aG_1.2 : List (Int × Int)))])) rfl rfl rfl ht_nil)) rfl rfl rfl ?_
      refine g_v1 (t := 1) (u := (Enc.enc (aParents_2 : List Int))) (Enc.enc (aParents_2 : List Int)) h1 rfl rfl ?_
      obtain ⟨r_5, E_r_5, h⟩ := bind_some h
      refine g_call (m := 0) (al := true) (r := (Enc.enc (r_5 : (List Int)))) [Enc.enc (aParents_2 : (List Int))] (ta_cons (v := (Enc.enc (aParents_2 : List Int))) rfl rfl (Enc.erase_enc (aParents_2 : (List Int))) ta_nil) (H.c18 _ _ E_r_5) H.g18 (hal_of (ht_cons (v := (Enc.enc (aParents_2 : List Int))) rfl rfl rfl ht_nil)) rfl rfl rfl ?_
      obtain ⟨r_6, E_r_6, h⟩ := bind_some h
      refine g_call (m := 0) (al := false) (r := (.tup [Enc.enc (r_6.1 : Int), Enc.enc (r_6.2 : Bool)])) [Enc.enc (r_4 : (Int × (List (Int × Int)))), Enc.enc (r_5 : (List Int))] (ta_cons (v := (.agg [(.int .i64 r_4.1), (Enc.enc (r_4.2 : List (Int × Int)))])) rfl rfl (Enc.erase_enc (r_4 : (Int × (List (Int × Int))))) (ta_cons (v := (Enc.enc (r_5 : List Int))) rfl rfl (Enc.erase_enc (r_5 : (List Int))) ta_nil)) (H.c16 _ _ _ E_r_6) H.g16 rfl rfl rfl rfl ?_
      refine g_v1 (t := 25) (u := (.tup [(.int .i64 r_6.1), (.bool r_6.2)])) (.tup [(.int .i64 r_6.1), (.bool r_6.2)]) rfl rfl rfl ?_
      refine g_v1 (t := 20) (u := (.tup [(.int .i64 r_6.1), (.bool r_6.2)])) (.int .i64 r_6.1) rfl rfl rfl ?_
      refine g_v1 (t := 20) (u := (.tup [(.int .i64 r_6.1), (.bool r_6.2)])) (.bool r_6.2) rfl rfl rfl ?_
      refine g_v1 (t := 26) (u := (.int .i64 r_6.1)) (.int .i64 r_6.1) rfl rfl rfl ?_
      refine g_v1 (t := 27) (u := (.bool r_6.2)) (.bool r_6.2) rfl rfl rfl ?_
      refine g_end ?_
      refine e_end ?_
      refine renew [(1, (Enc.enc (aParents_2 : List Int))), (2, (.ref (.bx 2) 0 [] (.agg [(.int .i64 aG_1.1), (Enc.enc (aG_1.2 : List (Int × Int)))]))), (4, (.bool false)), (6, (.int .i64 r_6.1)), (7, (.bool r_6.2))] ⟨h1, h2, h4, rfl, rfl⟩ ?_
      rintro s ⟨h1, h2, h4, h6, h7⟩
      refine .nsq ?_
      refine .seq ?_
      refine run_reg ?_
      refine e_clr ?_
      refine e_end ?_
      refine g_v1 (t := 2) (u := (.ref (.bx 2) 0 [] (.agg [(.int .i64 aG_1.1), (Enc.enc (aG_1.2 : List (Int × Int)))]))) (.agg [(.int .i64 aG_1.1), (Enc.enc (aG_1.2 : List (Int × Int)))]) (keep_clear (s := s) (pk := [8]) h2 rfl (map_bx rfl (map_agg (maps_cons rfl (maps_cons (Enc.map_enc _ (aG_1.2 : List (Int × Int))) maps_nil))))) rfl rfl ?_
      obtain ⟨r_7, E_r_7, h⟩ := bind_some h
      refine g_call (m := 0) (al := true) (r := (Enc.enc (r_7 : (Int × (List (Int × Int)))))) [Enc.enc (aG_1 : (Int × (List (Int × Int))))] (ta_cons (v := (.agg [(.int .i64 aG_1.1), (Enc.enc (aG_1.2 : List (Int × Int)))])) rfl rfl (Enc.erase_enc (aG_1 : (Int × (List (Int × Int))))) ta_nil) (H.c17 _ _ E_r_7) H.g17 (hal_of (ht_cons (v := (.agg [(.int .i64 aG_1.1), (Enc.enc (aG_1.2 : List (Int × Int)))])) rfl rfl rfl ht_nil)) rfl rfl rfl ?_
      refine g_alloc (gone_clear (s := s) (pk := [8]) (t := 8) rfl) ?_
      refine g_store (.agg [(.int .i64 r_7.1), (Enc.enc (r_7.2 : List (Int × Int)))]) (rd_of rfl rfl) (rd_of rfl rfl) (by refine ⟨by decide, by decide, rfl, rfl, rfl, ?_⟩; first | rfl | simp [V.toks, V.tokss, Enc.toks_enc]) ?_
      refine g_end ?_
      refine e_end ?_
      refine renew [(1, (Enc.enc (aParents_2 : List Int))), (2, (.ref (.bx 2) 0 [] (.agg [(.int .i64 aG_1.1), (Enc.enc (aG_1.2 : List (Int × Int)))]))), (4, (.bool false)), (6, (.int .i64 r_6.1)), (7, (.bool r_6.2)), (8, (.ref (.bx 8) 0 [] (.agg [(.int .i64 r_7.1), (Enc.enc (r_7.2 : List (Int × Int)))])))] ⟨(keep_mut (keep_clear (s := s) (pk := [8]) h1 rfl (Enc.map_enc _ (aParents_2 : List Int))) (Enc.mut_enc _ _ _ _ (aParents_2 : List Int))), (keep_mut (keep_clear (s := s) (pk := [8]) h2 rfl (map_bx rfl (map_agg (maps_cons rfl (maps_cons (Enc.map_enc _ (aG_1.2 : List (Int × Int))) maps_nil))))) (mut_ref_ne rfl rfl (mut_agg (muts_cons rfl (muts_cons (Enc.mut_enc _ _ _ _ (aG_1.2 : List (Int × Int))) rfl))))), (keep_mut (keep_clear (s := s) (pk := [8]) h4 rfl rfl) rfl), (keep_mut (keep_clear (s := s) (pk := [8]) h6 rfl rfl) rfl), (keep_mut (keep_clear (s := s) (pk := [8]) h7 rfl rfl) rfl), (keep_mut rfl rfl)⟩ ?_
      rintro s ⟨h1, h2, h4, h6, h7, h8⟩
      refine .nsq ?_
      refine .seq ?_
      refine run_reg ?_
      refine e_end ?_
      refine g_v1 (t := 1) (u := (Enc.enc (aParents_2 : List Int))) (Enc.enc (aParents_2 : List Int)) h1 rfl rfl ?_
      obtain ⟨r_8, E_r_8, h⟩ := bind_some h
      refine g_call (m := 0) (al := true) (r := (Enc.enc (r_8 : (List Int)))) [Enc.enc (aParents_2 : (List Int))] (ta_cons (v := (Enc.enc (aParents_2 : List Int))) rfl rfl (Enc.erase_enc (aParents_2 : (List Int))) ta_nil) (H.c18 _ _ E_r_8) H.g18 (hal_of (ht_cons (v := (Enc.enc (aParents_2 : List Int))) rfl rfl rfl ht_nil)) rfl rfl rfl ?_
      refine g_v1 (t := 31) (u := (Enc.enc (r_8 : List Int))) (Enc.enc (r_8 : List Int)) rfl rfl rfl ?_
      refine g_end ?_
      refine e_end ?_
      refine renew [(1, (Enc.enc (aParents_2 : List Int))), (2, (.ref (.bx 2) 0 [] (.agg [(.int .i64 aG_1.1), (Enc.enc (aG_1.2 : List (Int × Int)))]))), (4, (.bool false)), (6, (.int .i64 r_6.1)), (7, (.bool r_6.2)), (8, (.ref (.bx 8) 0 [] (.agg [(.int .i64 r_7.1), (Enc.enc (r_7.2 : List (Int × Int)))]))), (9, (Enc.enc (r_8 : List Int)))] ⟨h1, h2, h4, h6, h7, h8, rfl⟩ ?_
      rintro s ⟨h1, h2, h4, h6, h7, h8, h9⟩
      refine .nsq ?_
      refine .seq ?_
      refine run_reg ?_
      refine e_end ?_
      refine g_v1 (t := 8) (u := (.ref (.bx 8) 0 [] (.agg [(.int .i64 r_7.1), (Enc.enc (r_7.2 : List (Int × Int)))]))) (.agg [(.int .i64 r_7.1), (Enc.enc (r_7.2 : List (Int × Int)))]) h8 rfl rfl ?_
      refine g_v1 (t := 9) (u := (Enc.enc (r_8 : List Int))) (Enc.enc (r_8 : List Int)) h9 rfl rfl ?_
      obtain ⟨r_9, E_r_9, h⟩ := bind_some h
      refine g_call (m := 0) (al := false) (r := (.tup [Enc.enc (r_9.1 : Int), Enc.enc (r_9.2 : Bool)])) [Enc.enc (r_7 : (Int × (List (Int × Int)))), Enc.enc (r_8 : (List Int))] (ta_cons (v := (.agg [(.int .i64 r_7.1), (Enc.enc (r_7.2 : List (Int × Int)))])) rfl rfl (Enc.erase_enc (r_7 : (Int × (List (Int × Int))))) (ta_cons (v := (Enc.enc (r_8 : List Int))) rfl rfl (Enc.erase_enc (r_8 : (List Int))) ta_nil)) (H.c19 _ _ _ E_r_9) H.g19 rfl rfl rfl rfl ?_
      refine g_v1 (t := 35) (u := (.tup [(.int .i64 r_9.1), (.bool r_9.2)])) (.tup [(.int .i64 r_9.1), (.bool r_9.2)]) rfl rfl rfl ?_
      refine g_v1 (t := 32) (u := (.tup [(.int .i64 r_9.1), (.bool r_9.2)])) (.int .i64 r_9.1) rfl rfl rfl ?_
      refine g_v1 (t := 32) (u := (.tup [(.int .i64 r_9.1), (.bool r_9.2)])) (.bool r_9.2) rfl rfl rfl ?_
      refine g_v1 (t := 36) (u := (.int .i64 r_9.1)) (.int .i64 r_9.1) rfl rfl rfl ?_
      refine g_v1 (t := 37) (u := (.bool r_9.2)) (.bool r_9.2) rfl rfl rfl ?_
      refine g_end ?_
      refine e_end ?_
      refine renew [(1, (Enc.enc (aParents_2 : List Int))), (2, (.ref (.bx 2) 0 [] (.agg [(.int .i64 aG_1.1), (Enc.enc (aG_1.2 : List (Int × Int)))]))), (4, (.bool false)), (6, (.int .i64 r_6.1)), (7, (.bool r_6.2)), (8, (.ref (.bx 8) 0 [] (.agg [(.int .i64 r_7.1), (Enc.enc (r_7.2 : List (Int × Int)))]))), (9, (Enc.enc (r_8 : List Int))), (10, (.int .i64 r_9.1)), (11, (.bool r_9.2))] ⟨h1, h2, h4, h6, h7, h8, h9, rfl, rfl⟩ ?_
      rintro s ⟨h1, h2, h4, h6, h7, h8, h9, h10, h11⟩
      refine .nsq ?_
      refine .seq ?_
      refine .seq ?_
      refine run_reg ?_
      refine e_end ?_
      refine g_v1 (t := 10) (u := (.int .i64 r_9.1)) (.int .i64 r_9.1) h10 rfl rfl ?_
      refine g_v1 (t := 6) (u := (.int .i64 r_6.1)) (.int .i64 r_6.1) h6 rfl rfl ?_
      refine g_v2 (t1 := 38) (t2 := 39) (u1 := (.int .i64 r_9.1)) (u2 := (.int .i64 r_6.1)) (.bool (r_9.1 != r_6.1)) rfl rfl rfl rfl ?_
      refine g_v1 (t := 40) (u := (.bool (r_9.1 != r_6.1))) (.bool (r_9.1 != r_6.1)) rfl rfl rfl ?_
      refine split_on (c := (r_9.1 != r_6.1)) h (fun hg4 h => ?_) (fun hg4 h => ?_)
      · refine g_no (Eq.trans (b := .bool (r_9.1 != r_6.1)) rfl (congrArg V.bool hg4)) ?_
        refine g_no (Eq.trans (b := .bool (r_9.1 != r_6.1)) rfl (congrArg V.bool hg4)) ?_
        refine g_no (Eq.trans (b := .bool (r_9.1 != r_6.1)) rfl (congrArg V.bool hg4)) ?_
        refine g_v2 (t1 := 41) (t2 := 44) (u1 := (.bool true)) (u2 := (.tup [])) (.bool true) (Eq.trans (b := .bool (r_9.1 != r_6.1)) rfl (congrArg V.bool hg4)) rfl rfl rfl ?_
        refine g_end ?_
        refine e_end ?_
        refine renew [(1, (Enc.enc (aParents_2 : List Int))), (2, (.ref (.bx 2) 0 [] (.agg [(.int .i64 aG_1.1), (Enc.enc (aG_1.2 : List (Int × Int)))]))), (4, (.bool false)), (8, (.ref (.bx 8) 0 [] (.agg [(.int .i64 r_7.1), (Enc.enc (r_7.2 : List (Int × Int)))]))), (9, (Enc.enc (r_8 : List Int))), (45, (.bool true))] ⟨h1, h2, h4, h8, h9, rfl⟩ ?_
        rintro s ⟨h1, h2, h4, h8, h9, h45⟩
        exact t_f3_j1 H aParents_2 aG_1 r_7 r_8 true _ ⟨h1, h2, h4, h8, h9, h45⟩ h
      · refine g_yes (Eq.trans (b := .bool (r_9.1 != r_6.1)) rfl (congrArg V.bool hg4)) (g_v1 (t := 11) (u := (.bool r_9.2)) (.bool r_9.2) h11 rfl rfl ?_)
        refine g_yes (Eq.trans (b := .bool (r_9.1 != r_6.1)) rfl (congrArg V.bool hg4)) (g_v1 (t := 7) (u := (.bool r_6.2)) (.bool r_6.2) h7 rfl rfl ?_)
        refine g_yes (Eq.trans (b := .bool (r_9.1 != r_6.1)) rfl (congrArg V.bool hg4)) (g_v2 (t1 := 42) (t2 := 43) (u1 := (.bool r_9.2)) (u2 := (.bool r_6.2)) (.bool (r_9.2 != r_6.2)) rfl rfl rfl rfl ?_)
        refine g_v2 (t1 := 41) (t2 := 44) (u1 := (.bool false)) (u2 := (.bool (r_9.2 != r_6.2))) (.bool (r_9.2 != r_6.2)) (Eq.trans (b := .bool (r_9.1 != r_6.1)) rfl (congrArg V.bool hg4)) rfl rfl rfl ?_
        refine g_end ?_
        refine e_end ?_
        refine renew [(1, (Enc.enc (aParents_2 : List Int))), (2, (.ref (.bx 2) 0 [] (.agg [(.int .i64 aG_1.1), (Enc.enc (aG_1.2 : List (Int × Int)))]))), (4, (.bool false)), (8, (.ref (.bx 8) 0 [] (.agg [(.int .i64 r_7.1), (Enc.enc (r_7.2 : List (Int × Int)))]))), (9, (Enc.enc (r_8 : List Int))), (45, (.bool (r_9.2 != r_6.2)))] ⟨h1, h2, h4, h8, h9, rfl⟩ ?_
        rintro s ⟨h1, h2, h4, h8, h9, h45⟩
        exact t_f3_j1 H aParents_2 aG_1 r_7 r_8 (r_9.2 != r_6.2) _ ⟨h1, h2, h4, h8, h9, h45⟩ h
end
def e3 (F : Nat) : Ent := ⟨3, dn2 (w_FnExactForestDepth F) (fun (r : Bool) => (Enc.enc (r : Bool))), 0, false⟩
theorem o3 {D : Den} {σ : Sig} {F : Nat} (hF : Fits2 Try.prog D σ) (H : H3 D σ F) : (e3 F).Ok Try.prog := by
  refine ⟨fun args r h => ?_, ⟨Try.f3, Try.func3, rfl, rfl⟩⟩
  obtain ⟨x0, x1, y, rfl, hy, rfl⟩ := dn2_open h
  exact contract_run hF (by kernel_rfl) Try.func3 rfl c3 (show 2 ≤ Try.f3.ntmps by decide) (t3 H x0 x1 _ ⟨rfl, rfl⟩ hy)
end Go.Zq
